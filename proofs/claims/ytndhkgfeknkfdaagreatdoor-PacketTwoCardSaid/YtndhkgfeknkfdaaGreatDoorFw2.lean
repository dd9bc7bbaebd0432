/- crierlaw2.few of two packets. -/
import Derived.Test.YtndhkgfeknkfdaaGreatDoorCnt
import Derived.Deep.MidRow
import Derived.Test.YtndhkgfeknkfdaaGreatDoorSam
namespace Go.Proofs.YtndhkgfeknkfdaaGreatDoor.Pk
open Go.RowKit Go.Proofs.YtndhkgfeknkfdaaGreatDoorW.PrintWords Go.Proofs.YtndhkgfeknkfdaaGreatDoorW.PrintLast Go.Proofs.YtndhkgfeknkfdaaGreatDoorW.PrintMore Go.Proofs.YtndhkgfeknkfdaaGreatDoor.MPacketChecks
open Go.Proofs.YtndhkgfeknkfdaaGreatDoorW.PrintWords.Aside0 renaming mk → am
set_option linter.unusedVariables false
set_option linter.unusedSimpArgs false
set_option maxHeartbeats 8000000
set_option maxRecDepth 100000
theorem Packets_two (a0 : Int) (a1 : Int) (a2 : Bool) (a3 : Int) (a4 : ByteArray) (a5 : Bool) (a6 : ByteArray) (A7 : Option Addr) (c7 : Nat) (l7 : List Int) (a8 : Int) (a9 : Bool) (a10 : Bool) (a11 : ByteArray) (a12 : Bool) (A13 : Option Addr) (c13 : Nat) (l13 : List Int) (a14 : Bool) (a15 : Int) (a16 : Bool) (a17 : ByteArray) (A18 : Option Addr) (c18 : Nat) (l18 : List Int) (a19 : Int) (a20 : Bool) (a21 : Int) (A22 : Option Addr) (c22 : Nat) (l22 : List S82) (A23 : Option Addr) (c23 : Nat) (l23 : List Int) (A24 : Option Addr) (c24 : Nat) (l24 : List ByteArray) (qa0 : Int) (qa1 : Int) (qa2 : Bool) (qa3 : Int) (qa4 : ByteArray) (qa5 : Bool) (qa6 : ByteArray) (qA7 : Option Addr) (qc7 : Nat) (ql7 : List Int) (qa8 : Int) (qa9 : Bool) (qa10 : Bool) (qa11 : ByteArray) (qa12 : Bool) (qA13 : Option Addr) (qc13 : Nat) (ql13 : List Int) (qa14 : Bool) (qa15 : Int) (qa16 : Bool) (qa17 : ByteArray) (qA18 : Option Addr) (qc18 : Nat) (ql18 : List Int) (qa19 : Int) (qa20 : Bool) (qa21 : Int) (qA22 : Option Addr) (qc22 : Nat) (ql22 : List S82) (qA23 : Option Addr) (qc23 : Nat) (ql23 : List Int) (qA24 : Option Addr) (qc24 : Nat) (ql24 : List ByteArray) (g gs c k k2 : Nat) (r1 r2 : Int) (w0 w : World) (hI : IsS91 w0 w g 300000) (hB : Below w0.heap.size w0 w) (hb : w.heap[gs]? = some (.cells #[.int .i64 a0, .int .i64 a1, .bool a2, .int .i64 a3, .string a4, .bool a5, .string a6, .slice A7 l7.length c7, .int .i64 a8, .bool a9, .bool a10, .string a11, .bool a12, .slice A13 l13.length c13, .bool a14, .int .i64 a15, .bool a16, .string a17, .slice A18 l18.length c18, .int .i64 a19, .bool a20, .int .i64 a21, .slice A22 l22.length c22, .slice A23 l23.length c23, .slice A24 l24.length c24, .int .i64 qa0, .int .i64 qa1, .bool qa2, .int .i64 qa3, .string qa4, .bool qa5, .string qa6, .slice qA7 ql7.length qc7, .int .i64 qa8, .bool qa9, .bool qa10, .string qa11, .bool qa12, .slice qA13 ql13.length qc13, .bool qa14, .int .i64 qa15, .bool qa16, .string qa17, .slice qA18 ql18.length qc18, .int .i64 qa19, .bool qa20, .int .i64 qa21, .slice qA22 ql22.length qc22, .slice qA23 ql23.length qc23, .slice qA24 ql24.length qc24] 29 (0, 0))) (hne : gs ≠ g) (hF : Ft w g A7 c7 l7 A13 c13 l13 A18 c18 l18 A22 c22 l22 A23 c23 l23 A24 c24 l24) (hG : Ft w g qA7 qc7 ql7 qA13 qc13 ql13 qA18 qc18 ql18 qA22 qc22 ql22 qA23 qc23 ql23 qA24 qc24 ql24) (h : crierroom_Count_Packet.f k 300000 a0 a1 a2 a3 a4 a5 a6 l7 a8 a9 a10 a11 a12 l13 a14 a15 a16 a17 l18 a19 a20 a21 l22 l23 l24 = some r1) (h2 : 0 ≤ r1 → crierroom_Count_Packet.f k2 r1 qa0 qa1 qa2 qa3 qa4 qa5 qa6 ql7 qa8 qa9 qa10 qa11 qa12 ql13 qa14 qa15 qa16 qa17 ql18 qa19 qa20 qa21 ql22 ql23 ql24 = some r2) :
  Calls Tryz.prog 17 #[.pointer (some ⟨g, 0, none⟩), .slice (some ⟨gs, 0, none⟩) 2 c] w fun e w' => e = .returned (.tuple #[]) ∧ ∃ s, (s = r1 ∧ r1 < 0 ∨ 0 ≤ r1 ∧ s = r2) ∧ IsS91 w0 w' g s ∧ Below w0.heap.size w0 w' := by
 have hu29 := Tryz.underlying29
 have HI := am hI; have HB := am hB; have BK := am hb; have NE := am hne; have HF := am hF; have HG := am hG; have H := am h; have H2 := am h2
 have HK := am (KeepBut.refl w g none)
 clear hI hB hb hne hF hG h h2
 go_enter Tryz.func17, Tryz.ntmps17
 go_wp2_with fail
 go_loopw [4] (fun v wr => ∃ x s' : Int, v = .int .i64 x ∧ Aside0 (x = 0 ∧ s' = 300000 ∨ x = 1 ∧ s' = r1 ∨ x = 2 ∧ 0 ≤ r1 ∧ s' = r2) ∧ Aside0 (IsS91 w0 wr g s') ∧ Aside0 (Below w0.heap.size w0 wr) ∧ Aside0 (KeepBut w wr g none)) (fun v _ => 2 - (intOf v).toNat)
 case atStart => exact ⟨0, 300000, rfl, ⟨.inl ⟨rfl, rfl⟩⟩, HI, HB, HK⟩
 case round =>
  clear HI HB HK
  obtain ⟨x, s', rfl, HX, HI, HB, HK⟩ := hrel
  obtain ⟨wo, hwo⟩ : ∃ x, x = wr := ⟨_, rfl⟩
  subst hwo
  rcases HX.out with ⟨hx, hs⟩ | ⟨hx, hs⟩ | ⟨hx, hr1, hs⟩
  ·subst hx hs; clear HX
   go_wp2_with fail
   refine (crierroom_Count_Ok.calls g _ true _ w0 _ HI.out HB.out (show crierroom_Count_Ok.f _ = some (true, _) by unfold crierroom_Count_Ok.f; rw [decide_eq_true (by omega)])).mono ?_
   rintro e w2 ⟨rfl, hi, hb, hk⟩
   have n0_ := am (HK.out.trans hk (.inl rfl)); have BK2 := am ((n0_.out.2 gs (blk_lt BK.out) NE.out (by simp)).trans BK.out); clear HI HB HK hk; have HI := am hi; have HB := am hb; have HK := n0_; clear n0_ hi hb
   go_wp2_with (first | ((with_reducible refine gate_dst (N := 19) rfl ?_); refine wpList_load_midG (by rfl) 29 (.tmp 18) rfl gs 0 rfl [.int .i64 a0, .int .i64 a1, .bool a2, .int .i64 a3, .string a4, .bool a5, .string a6, .slice A7 l7.length c7, .int .i64 a8, .bool a9, .bool a10, .string a11, .bool a12, .slice A13 l13.length c13, .bool a14, .int .i64 a15, .bool a16, .string a17, .slice A18 l18.length c18, .int .i64 a19, .bool a20, .int .i64 a21, .slice A22 l22.length c22, .slice A23 l23.length c23, .slice A24 l24.length c24] _ (rangeAt_sub BK2.out 0 25) hu29 rfl (by kernel_rfl) ?_))
   refine ((crierroom_Count_Packet.calls k g _ a0 a1 a2 a3 a4 a5 a6 A7 c7 l7 a8 a9 a10 a11 a12 A13 c13 l13 a14 a15 a16 a17 A18 c18 l18 a19 a20 a21 A22 c22 l22 A23 c23 l23 A24 c24 l24 r1 w0 _ HI.out HB.out (HF.out.rd _ HK.out).r7 (HF.out.rd _ HK.out).k7 HF.out.n7 (HF.out.rd _ HK.out).r13 (HF.out.rd _ HK.out).k13 HF.out.n13 (HF.out.rd _ HK.out).r18 (HF.out.rd _ HK.out).k18 HF.out.n18 (fun W hW => (HF.out.rd W (HK.out.trans hW (.inl rfl))).r22) (HF.out.rd _ HK.out).k22 (HF.out.rd _ HK.out).r23 (HF.out.rd _ HK.out).k23 HF.out.n23 (HF.out.rd _ HK.out).r24 (HF.out.rd _ HK.out).k24 HF.out.n24 H.out)).mono ?_
   rintro e w3 ⟨rfl, hi, hb, hk⟩; have n0_ := am (HK.out.trans hk (.inl rfl)); clear HI HB HK hk; have HI := am hi; have HB := am hb; have HK := n0_; clear n0_ hi hb
   go_wp2
   go_roundw
   case rel => exact ⟨1, r1, rfl, ⟨.inr (.inl ⟨rfl, rfl⟩)⟩, HI, HB, HK⟩
   case measure => simp [intOf]
  ·subst hx hs; clear HX
   by_cases h0 : 0 ≤ s'
   ·skip
    go_wp2_with fail
    refine (crierroom_Count_Ok.calls g _ true _ w0 _ HI.out HB.out (show crierroom_Count_Ok.f _ = some (true, _) by unfold crierroom_Count_Ok.f; rw [decide_eq_true (by omega)])).mono ?_
    rintro e w2 ⟨rfl, hi, hb, hk⟩
    have n0_ := am (HK.out.trans hk (.inl rfl)); have BK2 := am ((n0_.out.2 gs (blk_lt BK.out) NE.out (by simp)).trans BK.out); clear HI HB HK hk; have HI := am hi; have HB := am hb; have HK := n0_; clear n0_ hi hb
    have HH2 := am (H2.out h0)
    go_wp2_with (first | ((with_reducible refine gate_dst (N := 19) rfl ?_); refine wpList_load_midG (by rfl) 29 (.tmp 18) rfl gs 25 rfl [.int .i64 qa0, .int .i64 qa1, .bool qa2, .int .i64 qa3, .string qa4, .bool qa5, .string qa6, .slice qA7 ql7.length qc7, .int .i64 qa8, .bool qa9, .bool qa10, .string qa11, .bool qa12, .slice qA13 ql13.length qc13, .bool qa14, .int .i64 qa15, .bool qa16, .string qa17, .slice qA18 ql18.length qc18, .int .i64 qa19, .bool qa20, .int .i64 qa21, .slice qA22 ql22.length qc22, .slice qA23 ql23.length qc23, .slice qA24 ql24.length qc24] _ (rangeAt_sub BK2.out 25 25) hu29 rfl (by kernel_rfl) ?_))
    refine ((crierroom_Count_Packet.calls k2 g _ qa0 qa1 qa2 qa3 qa4 qa5 qa6 qA7 qc7 ql7 qa8 qa9 qa10 qa11 qa12 qA13 qc13 ql13 qa14 qa15 qa16 qa17 qA18 qc18 ql18 qa19 qa20 qa21 qA22 qc22 ql22 qA23 qc23 ql23 qA24 qc24 ql24 r2 w0 _ HI.out HB.out (HG.out.rd _ HK.out).r7 (HG.out.rd _ HK.out).k7 HG.out.n7 (HG.out.rd _ HK.out).r13 (HG.out.rd _ HK.out).k13 HG.out.n13 (HG.out.rd _ HK.out).r18 (HG.out.rd _ HK.out).k18 HG.out.n18 (fun W hW => (HG.out.rd W (HK.out.trans hW (.inl rfl))).r22) (HG.out.rd _ HK.out).k22 (HG.out.rd _ HK.out).r23 (HG.out.rd _ HK.out).k23 HG.out.n23 (HG.out.rd _ HK.out).r24 (HG.out.rd _ HK.out).k24 HG.out.n24 HH2.out)).mono ?_
    rintro e w3 ⟨rfl, hi, hb, hk⟩; have n0_ := am (HK.out.trans hk (.inl rfl)); clear HI HB HK hk; have HI := am hi; have HB := am hb; have HK := n0_; clear n0_ hi hb
    go_wp2
    go_roundw
    case rel => exact ⟨2, r2, rfl, ⟨.inr (.inr ⟨rfl, h0, rfl⟩)⟩, HI, HB, HK⟩
    case measure => simp [intOf]
   ·skip
    go_wp2_with fail
    refine (crierroom_Count_Ok.calls g _ false _ w0 _ HI.out HB.out (show crierroom_Count_Ok.f _ = some (false, _) by unfold crierroom_Count_Ok.f; rw [decide_eq_false (by omega)])).mono ?_
    rintro e w2 ⟨rfl, hi, hb, hk⟩
    have n0_ := am (HK.out.trans hk (.inl rfl)); have BK2 := am ((n0_.out.2 gs (blk_lt BK.out) NE.out (by simp)).trans BK.out); clear HI HB HK hk; have HI := am hi; have HB := am hb; have HK := n0_; clear n0_ hi hb
    go_wp2
    first | go_end0 | ((try simp only [Exit.inBlock, Exit.then]); refine bodyPost_ret (results_none rfl _ _ _) rfl ?_)
    exact ⟨rfl, s', .inl ⟨rfl, by omega⟩, HI.out, HB.out⟩
  ·subst hx hs; clear HX
   go_wp2
   first | go_end0 | ((try simp only [Exit.inBlock, Exit.then]); refine bodyPost_ret (results_none rfl _ _ _) rfl ?_)
   exact ⟨rfl, s', .inr ⟨hr1, rfl⟩, HI.out, HB.out⟩
theorem few_sum2 {p : P} {s0 s : Int} (h0' : s0 ≤ 300000) (h : Cn s0 s ((1 + p.a4.size) + (1 + p.a11.size) + (1 + p.l13.length) + ((1 + p.a6.size) + (1 + p.l7.length)) + ((1 + p.a17.size) + (1 + p.l18.length)) + ctA p.l22 + p.l23.length + ctT p.l24)) (h0 : 0 ≤ s) : p.sum ≤ 900000 := by
 have h1 := (h.2 h0).2
 have hA := ctA_sum p.l22
 have hT := ctT_sum p.l24
 unfold P.sum
 omega
theorem few_two (a0 : Int) (a1 : Int) (a2 : Bool) (a3 : Int) (a4 : ByteArray) (a5 : Bool) (a6 : ByteArray) (A7 : Option Addr) (c7 : Nat) (l7 : List Int) (a8 : Int) (a9 : Bool) (a10 : Bool) (a11 : ByteArray) (a12 : Bool) (A13 : Option Addr) (c13 : Nat) (l13 : List Int) (a14 : Bool) (a15 : Int) (a16 : Bool) (a17 : ByteArray) (A18 : Option Addr) (c18 : Nat) (l18 : List Int) (a19 : Int) (a20 : Bool) (a21 : Int) (A22 : Option Addr) (c22 : Nat) (l22 : List S82) (A23 : Option Addr) (c23 : Nat) (l23 : List Int) (A24 : Option Addr) (c24 : Nat) (l24 : List ByteArray) (qa0 : Int) (qa1 : Int) (qa2 : Bool) (qa3 : Int) (qa4 : ByteArray) (qa5 : Bool) (qa6 : ByteArray) (qA7 : Option Addr) (qc7 : Nat) (ql7 : List Int) (qa8 : Int) (qa9 : Bool) (qa10 : Bool) (qa11 : ByteArray) (qa12 : Bool) (qA13 : Option Addr) (qc13 : Nat) (ql13 : List Int) (qa14 : Bool) (qa15 : Int) (qa16 : Bool) (qa17 : ByteArray) (qA18 : Option Addr) (qc18 : Nat) (ql18 : List Int) (qa19 : Int) (qa20 : Bool) (qa21 : Int) (qA22 : Option Addr) (qc22 : Nat) (ql22 : List S82) (qA23 : Option Addr) (qc23 : Nat) (ql23 : List Int) (qA24 : Option Addr) (qc24 : Nat) (ql24 : List ByteArray) (gs c : Nat) (w : World) (hr : Rd w A7 c7 l7 A13 c13 l13 A18 c18 l18 A22 c22 l22 A23 c23 l23 A24 c24 l24) (hq : Rd w qA7 qc7 ql7 qA13 qc13 ql13 qA18 qc18 ql18 qA22 qc22 ql22 qA23 qc23 ql23 qA24 qc24 ql24) (hb : w.heap[gs]? = some (.cells #[.int .i64 a0, .int .i64 a1, .bool a2, .int .i64 a3, .string a4, .bool a5, .string a6, .slice A7 l7.length c7, .int .i64 a8, .bool a9, .bool a10, .string a11, .bool a12, .slice A13 l13.length c13, .bool a14, .int .i64 a15, .bool a16, .string a17, .slice A18 l18.length c18, .int .i64 a19, .bool a20, .int .i64 a21, .slice A22 l22.length c22, .slice A23 l23.length c23, .slice A24 l24.length c24, .int .i64 qa0, .int .i64 qa1, .bool qa2, .int .i64 qa3, .string qa4, .bool qa5, .string qa6, .slice qA7 ql7.length qc7, .int .i64 qa8, .bool qa9, .bool qa10, .string qa11, .bool qa12, .slice qA13 ql13.length qc13, .bool qa14, .int .i64 qa15, .bool qa16, .string qa17, .slice qA18 ql18.length qc18, .int .i64 qa19, .bool qa20, .int .i64 qa21, .slice qA22 ql22.length qc22, .slice qA23 ql23.length qc23, .slice qA24 ql24.length qc24] 29 (0, 0))) (hf : P.fits ⟨a0, a1, a2, a3, a4, a5, a6, l7, a8, a9, a10, a11, a12, l13, a14, a15, a16, a17, l18, a19, a20, a21, l22, l23, l24⟩) (hf2 : P.fits ⟨qa0, qa1, qa2, qa3, qa4, qa5, qa6, ql7, qa8, qa9, qa10, qa11, qa12, ql13, qa14, qa15, qa16, qa17, ql18, qa19, qa20, qa21, ql22, ql23, ql24⟩) :
  Calls Tryz.prog 5 #[.slice (some ⟨gs, 0, none⟩) 2 c] w fun e w' => ∃ b, e = .returned (.bool b) ∧ (b = true → P.sum ⟨a0, a1, a2, a3, a4, a5, a6, l7, a8, a9, a10, a11, a12, l13, a14, a15, a16, a17, l18, a19, a20, a21, l22, l23, l24⟩ ≤ 900000 ∧ P.sum ⟨qa0, qa1, qa2, qa3, qa4, qa5, qa6, ql7, qa8, qa9, qa10, qa11, qa12, ql13, qa14, qa15, qa16, qa17, ql18, qa19, qa20, qa21, ql22, ql23, ql24⟩ ≤ 900000) ∧ Below w.heap.size w w' := by
 obtain ⟨k, r1, h1, c1⟩ := cn_packet ⟨a0, a1, a2, a3, a4, a5, a6, l7, a8, a9, a10, a11, a12, l13, a14, a15, a16, a17, l18, a19, a20, a21, l22, l23, l24⟩ hf 300000 (by omega)
 have hr1 := c1.1
 obtain ⟨k2, r2, h2, c2⟩ := cn_packet ⟨qa0, qa1, qa2, qa3, qa4, qa5, qa6, ql7, qa8, qa9, qa10, qa11, qa12, ql13, qa14, qa15, qa16, qa17, ql18, qa19, qa20, qa21, ql22, ql23, ql24⟩ hf2 r1 hr1
 have HR := am hr; have HQ := am hq; have BK := am hb; have H1 := am h1; have H2 := am h2
 have HB := am (Below.refl w.heap.size w)
 have HC1 := am c1; have HC2 := am c2
 clear hr hq hb h1 h2 c1 c2
 go_enter Tryz.func5, Tryz.ntmps5
 go_wp2_with fail
 refine (crierroom_Many.calls 300000 _ w _ HB.out rfl).mono ?_
 rintro e w2 ⟨g, rfl, hi, hb, hb2⟩
 have HI := am hi
 have n1_ := am (blk_below BK.out hb2)
 have NE := am (show gs ≠ g by have h1 := blk_lt BK.out; have h2 := hi.2; omega)
 clear HB BK hi hb2
 have HB := am hb
 have BK := n1_
 clear n1_ hb
 go_wp2_with fail
 refine (Packets_two a0 a1 a2 a3 a4 a5 a6 A7 c7 l7 a8 a9 a10 a11 a12 A13 c13 l13 a14 a15 a16 a17 A18 c18 l18 a19 a20 a21 A22 c22 l22 A23 c23 l23 A24 c24 l24 qa0 qa1 qa2 qa3 qa4 qa5 qa6 qA7 qc7 ql7 qa8 qa9 qa10 qa11 qa12 qA13 qc13 ql13 qa14 qa15 qa16 qa17 qA18 qc18 ql18 qa19 qa20 qa21 qA22 qc22 ql22 qA23 qc23 ql23 qA24 qc24 ql24 g gs c k k2 r1 r2 w _ HI.out HB.out BK.out NE.out (Ft.of HR.out HB.out HI.out.2) (Ft.of HQ.out HB.out HI.out.2) H1.out (fun _ => H2.out)).mono ?_
 rintro e w3 ⟨rfl, s, hs, hi, hb⟩
 clear HI HB BK
 have HI := am hi
 have HB := am hb
 have HS := am hs
 clear hi hb hs
 go_wp2_with fail
 refine (crierroom_Count_Ok.calls g _ _ _ w _ HI.out HB.out rfl).mono ?_
 rintro e w4 ⟨rfl, hi, hb, hk⟩
 have n0_ := am hb
 clear HI HB hk hi hb
 go_wp2
 go_ret
 refine ⟨_, rfl, fun hb => ?_, n0_.out⟩
 have h0 := of_decide_eq_true hb
 rcases HS.out with ⟨rfl, hn⟩ | ⟨h3, rfl⟩
 ·omega
 ·exact ⟨few_sum2 (Int.le_refl _) HC1.out h3, few_sum2 hr1 HC2.out h0⟩
end Go.Proofs.YtndhkgfeknkfdaaGreatDoor.Pk
