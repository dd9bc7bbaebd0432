/- (*Count).Packets of one packet; few; right. -/
import Derived.Test.YtndhkgfeknkfdaaGreatDoorFew
namespace Go.Proofs.YtndhkgfeknkfdaaGreatDoor.Pk
open Go.RowKit Go.Proofs.YtndhkgfeknkfdaaGreatDoor.Giv Go.Proofs.YtndhkgfeknkfdaaGreatDoorW.PrintWords Go.Proofs.YtndhkgfeknkfdaaGreatDoorW.PrintLast Go.Proofs.YtndhkgfeknkfdaaGreatDoorW.PrintMore Go.Proofs.YtndhkgfeknkfdaaGreatDoor.MPacketChecks
set_option linter.unusedVariables false
set_option linter.unusedSimpArgs false
set_option maxHeartbeats 8000000
set_option maxRecDepth 100000
theorem wpList_load_rowG {P : Program} {ops : Array Oper} {rest : List Oper} {o : Oper} {a : Act} {w : World} {Q : Exit → Act → World → Prop} (hw : Region.wanted o (yielded ops a.tmps) = true) (ty : TypeId) (x : Operand) (ho : o.op = .load ty x)
    (g : Nat) (hx : a.eval x = .pointer (some ⟨g, 0, none⟩)) (t : TypeId) (cs : Array Value) (fr : Nat × Nat) (d : TypeDesc) (hg : w.heap[g]? = some (.cells cs t fr))
    (hu : P.underlying ty = some d) (hd : (match d with | .struct _ | .array _ _ => true | _ => false) = true) (hi : (P.info? ty).map (·.size) = some cs.size)
    (h : wpList P ops Q rest (a.put o.dst (.agg cs)) w) : wpList P ops Q (o :: rest) a w :=
  wpList_step fun K hK => by rw [if_pos hw]; exact wp_load_row ty x ho g hx t cs fr d hg hu hd hi (hK _ _ h)
/-- what a packet's slices read as stays so while block g alone is written -/
structure Ft (w : World) (g : Nat) (A7 : Option Addr) (c7 : Nat) (l7 : List Int) (A13 : Option Addr) (c13 : Nat) (l13 : List Int) (A18 : Option Addr) (c18 : Nat) (l18 : List Int) (A22 : Option Addr) (c22 : Nat) (l22 : List S82) (A23 : Option Addr) (c23 : Nat) (l23 : List Int) (A24 : Option Addr) (c24 : Nat) (l24 : List ByteArray) : Prop where
  rd : ∀ W, KeepBut w W g none → Rd W A7 c7 l7 A13 c13 l13 A18 c18 l18 A22 c22 l22 A23 c23 l23 A24 c24 l24
  n7 : ∀ ad, A7 = some ad → 0 < l7.length → ad.block ≠ g
  n13 : ∀ ad, A13 = some ad → 0 < l13.length → ad.block ≠ g
  n18 : ∀ ad, A18 = some ad → 0 < l18.length → ad.block ≠ g
  n23 : ∀ ad, A23 = some ad → 0 < l23.length → ad.block ≠ g
  n24 : ∀ ad, A24 = some ad → 0 < l24.length → ad.block ≠ g
theorem Ft.of {A7 : Option Addr} {c7 : Nat} {l7 : List Int} {A13 : Option Addr} {c13 : Nat} {l13 : List Int} {A18 : Option Addr} {c18 : Nat} {l18 : List Int} {A22 : Option Addr} {c22 : Nat} {l22 : List S82} {A23 : Option Addr} {c23 : Nat} {l23 : List Int} {A24 : Option Addr} {c24 : Nat} {l24 : List ByteArray} {w0 w : World} {g : Nat} (h : Rd w0 A7 c7 l7 A13 c13 l13 A18 c18 l18 A22 c22 l22 A23 c23 l23 A24 c24 l24) (b : Below w0.heap.size w0 w) (hg : w0.heap.size ≤ g) : Ft w g A7 c7 l7 A13 c13 l13 A18 c18 l18 A22 c22 l22 A23 c23 l23 A24 c24 l24 where
  rd := fun W k => ⟨Kd.C_foot_came (Kd.heap_int _) h.r7 b hg W k, h.k7, Kd.C_foot_came (Kd.heap_int _) h.r13 b hg W k, h.k13, Kd.C_foot_came (Kd.heap_int _) h.r18 b hg W k, h.k18, Kd.C_foot_came (Kd.heap_iso _ (Kd.heap_pair Kd.heap_string (Kd.heap_int _))) h.r22 b hg W k, h.k22, Kd.C_foot_came (Kd.heap_int _) h.r23 b hg W k, h.k23, Kd.C_foot_came Kd.heap_string h.r24 b hg W k, h.k24⟩
  n7 := fun ad e hp => by subst e; have := Kd.C_lt h.r7 hp (by decide); omega
  n13 := fun ad e hp => by subst e; have := Kd.C_lt h.r13 hp (by decide); omega
  n18 := fun ad e hp => by subst e; have := Kd.C_lt h.r18 hp (by decide); omega
  n23 := fun ad e hp => by subst e; have := Kd.C_lt h.r23 hp (by decide); omega
  n24 := fun ad e hp => by subst e; have := Kd.C_lt h.r24 hp (by decide); omega
theorem Packets_one (a0 : Int) (a1 : Int) (a2 : Bool) (a3 : Int) (a4 : ByteArray) (a5 : Bool) (a6 : ByteArray) (A7 : Option Addr) (c7 : Nat) (l7 : List Int) (a8 : Int) (a9 : Bool) (a10 : Bool) (a11 : ByteArray) (a12 : Bool) (A13 : Option Addr) (c13 : Nat) (l13 : List Int) (a14 : Bool) (a15 : Int) (a16 : Bool) (a17 : ByteArray) (A18 : Option Addr) (c18 : Nat) (l18 : List Int) (a19 : Int) (a20 : Bool) (a21 : Int) (A22 : Option Addr) (c22 : Nat) (l22 : List S82) (A23 : Option Addr) (c23 : Nat) (l23 : List Int) (A24 : Option Addr) (c24 : Nat) (l24 : List ByteArray) (g gs c k : Nat) (s r : Int) (w0 w : World) (hI : IsS91 w0 w g s) (hB : Below w0.heap.size w0 w) (hb : w.heap[gs]? = some (.cells #[.int .i64 a0, .int .i64 a1, .bool a2, .int .i64 a3, .string a4, .bool a5, .string a6, .slice A7 l7.length c7, .int .i64 a8, .bool a9, .bool a10, .string a11, .bool a12, .slice A13 l13.length c13, .bool a14, .int .i64 a15, .bool a16, .string a17, .slice A18 l18.length c18, .int .i64 a19, .bool a20, .int .i64 a21, .slice A22 l22.length c22, .slice A23 l23.length c23, .slice A24 l24.length c24] 29 (0, 0))) (hne : gs ≠ g) (hF : Ft w g A7 c7 l7 A13 c13 l13 A18 c18 l18 A22 c22 l22 A23 c23 l23 A24 c24 l24) (hs0 : 0 ≤ s)
    (h : crierroom_Count_Packet.f k s a0 a1 a2 a3 a4 a5 a6 l7 a8 a9 a10 a11 a12 l13 a14 a15 a16 a17 l18 a19 a20 a21 l22 l23 l24 = some r) :
    Calls Tryz.prog 17 #[.pointer (some ⟨g, 0, none⟩), .slice (some ⟨gs, 0, none⟩) 1 c] w fun e w' => e = .returned (.tuple #[]) ∧ IsS91 w0 w' g r ∧ Below w0.heap.size w0 w' ∧ KeepBut w w' g none := by
  have hu29 := Tryz.underlying29
  have HI := Aside0.mk hI
  have HB := Aside0.mk hB
  have BK := Aside0.mk hb
  have NE := Aside0.mk hne
  have HF := Aside0.mk hF
  have H := Aside0.mk h
  have H0 := Aside0.mk (show crierroom_Count_Ok.f s = some (true, s) by unfold crierroom_Count_Ok.f; rw [decide_eq_true hs0])
  have HK := Aside0.mk (KeepBut.refl w g none)
  clear hI hB hb hne hF h hs0
  go_enter Tryz.func17, Tryz.ntmps17
  go_wp2_with fail
  go_loopw [4] (fun v wr => ∃ x s' : Int, v = .int .i64 x ∧ Aside0 (x = 0 ∧ s' = s ∨ x = 1 ∧ s' = r) ∧ Aside0 (IsS91 w0 wr g s') ∧ Aside0 (Below w0.heap.size w0 wr) ∧ Aside0 (KeepBut w wr g none)) (fun v _ => 1 - (intOf v).toNat)
  case atStart => exact ⟨0, s, rfl, ⟨.inl ⟨rfl, rfl⟩⟩, HI, HB, HK⟩
  case round =>
    clear HI HB HK
    obtain ⟨x, s', rfl, HX, HI, HB, HK⟩ := hrel
    obtain ⟨wo, hwo⟩ : ∃ x, x = wr := ⟨_, rfl⟩
    subst hwo
    rcases HX.out with ⟨hx, hs⟩ | ⟨hx, hs⟩
    · subst hx hs
      clear HX
      go_wp2_with fail
      refine (crierroom_Count_Ok.calls g _ _ _ w0 _ HI.out HB.out H0.out).mono ?_
      rintro e w2 ⟨rfl, hi, hb, hk⟩
      have n0_ := Aside0.mk (HK.out.trans hk (.inl rfl))
      have BK2 := Aside0.mk ((n0_.out.2 gs (blk_lt BK.out) NE.out (by simp)).trans BK.out)
      clear HI HB HK hk
      have HI := Aside0.mk hi
      have HB := Aside0.mk hb
      have HK := n0_
      clear n0_ hi hb
      go_wp2_with (first | ((with_reducible refine gate_dst (N := 19) rfl ?_); refine wpList_load_row rfl 29 (.tmp 18) rfl gs rfl 29 #[.int .i64 a0, .int .i64 a1, .bool a2, .int .i64 a3, .string a4, .bool a5, .string a6, .slice A7 l7.length c7, .int .i64 a8, .bool a9, .bool a10, .string a11, .bool a12, .slice A13 l13.length c13, .bool a14, .int .i64 a15, .bool a16, .string a17, .slice A18 l18.length c18, .int .i64 a19, .bool a20, .int .i64 a21, .slice A22 l22.length c22, .slice A23 l23.length c23, .slice A24 l24.length c24] (0, 0) _ BK2.out hu29 rfl (by kernel_rfl) ?_))
      refine (crierroom_Count_Packet.calls k g _ a0 a1 a2 a3 a4 a5 a6 A7 c7 l7 a8 a9 a10 a11 a12 A13 c13 l13 a14 a15 a16 a17 A18 c18 l18 a19 a20 a21 A22 c22 l22 A23 c23 l23 A24 c24 l24 r w0 _ HI.out HB.out (HF.out.rd _ HK.out).r7 (HF.out.rd _ HK.out).k7 HF.out.n7 (HF.out.rd _ HK.out).r13 (HF.out.rd _ HK.out).k13 HF.out.n13 (HF.out.rd _ HK.out).r18 (HF.out.rd _ HK.out).k18 HF.out.n18 (fun W hW => (HF.out.rd W (HK.out.trans hW (.inl rfl))).r22) (HF.out.rd _ HK.out).k22 (HF.out.rd _ HK.out).r23 (HF.out.rd _ HK.out).k23 HF.out.n23 (HF.out.rd _ HK.out).r24 (HF.out.rd _ HK.out).k24 HF.out.n24 H.out).mono ?_
      rintro e w3 ⟨rfl, hi, hb, hk⟩
      have n0_ := Aside0.mk (HK.out.trans hk (.inl rfl))
      clear HI HB HK hk
      have HI := Aside0.mk hi
      have HB := Aside0.mk hb
      have HK := n0_
      clear n0_ hi hb
      go_wp2
      go_roundw
      case rel => exact ⟨1, r, rfl, ⟨.inr ⟨rfl, rfl⟩⟩, HI, HB, HK⟩
      case measure => simp [intOf]
    · subst hx hs
      clear HX
      go_wp2
      first | go_end0 | ((try simp only [Exit.inBlock, Exit.then]); refine bodyPost_ret (results_none rfl _ _ _) rfl ?_)
      exact ⟨rfl, HI.out, HB.out, HK.out⟩
theorem few_one (a0 : Int) (a1 : Int) (a2 : Bool) (a3 : Int) (a4 : ByteArray) (a5 : Bool) (a6 : ByteArray) (A7 : Option Addr) (c7 : Nat) (l7 : List Int) (a8 : Int) (a9 : Bool) (a10 : Bool) (a11 : ByteArray) (a12 : Bool) (A13 : Option Addr) (c13 : Nat) (l13 : List Int) (a14 : Bool) (a15 : Int) (a16 : Bool) (a17 : ByteArray) (A18 : Option Addr) (c18 : Nat) (l18 : List Int) (a19 : Int) (a20 : Bool) (a21 : Int) (A22 : Option Addr) (c22 : Nat) (l22 : List S82) (A23 : Option Addr) (c23 : Nat) (l23 : List Int) (A24 : Option Addr) (c24 : Nat) (l24 : List ByteArray) (gs c k : Nat) (r : Int) (w : World) (hr : Rd w A7 c7 l7 A13 c13 l13 A18 c18 l18 A22 c22 l22 A23 c23 l23 A24 c24 l24) (hb : w.heap[gs]? = some (.cells #[.int .i64 a0, .int .i64 a1, .bool a2, .int .i64 a3, .string a4, .bool a5, .string a6, .slice A7 l7.length c7, .int .i64 a8, .bool a9, .bool a10, .string a11, .bool a12, .slice A13 l13.length c13, .bool a14, .int .i64 a15, .bool a16, .string a17, .slice A18 l18.length c18, .int .i64 a19, .bool a20, .int .i64 a21, .slice A22 l22.length c22, .slice A23 l23.length c23, .slice A24 l24.length c24] 29 (0, 0))) (h : crierroom_Count_Packet.f k 300000 a0 a1 a2 a3 a4 a5 a6 l7 a8 a9 a10 a11 a12 l13 a14 a15 a16 a17 l18 a19 a20 a21 l22 l23 l24 = some r) :
    Calls Tryz.prog 5 #[.slice (some ⟨gs, 0, none⟩) 1 c] w fun e w' => e = .returned (.bool (decide (r ≥ 0))) ∧ Below w.heap.size w w' := by
  have HR := Aside0.mk hr
  have BK := Aside0.mk hb
  have H := Aside0.mk h
  have HB := Aside0.mk (Below.refl w.heap.size w)
  clear hr hb h
  go_enter Tryz.func5, Tryz.ntmps5
  go_wp2_with fail
  refine (crierroom_Many.calls 300000 _ w _ HB.out rfl).mono ?_
  rintro e w2 ⟨g, rfl, hi, hb, hb2⟩
  have HI := Aside0.mk hi
  have n1_ := Aside0.mk (blk_below BK.out hb2)
  have NE := Aside0.mk (show gs ≠ g by have h1 := blk_lt BK.out; have h2 := hi.2; omega)
  clear HB BK hi hb2
  have HB := Aside0.mk hb
  have BK := n1_
  clear n1_ hb
  go_wp2_with fail
  refine (Packets_one a0 a1 a2 a3 a4 a5 a6 A7 c7 l7 a8 a9 a10 a11 a12 A13 c13 l13 a14 a15 a16 a17 A18 c18 l18 a19 a20 a21 A22 c22 l22 A23 c23 l23 A24 c24 l24 g gs c k 300000 r w _ HI.out HB.out BK.out NE.out (Ft.of HR.out HB.out HI.out.2) (by decide) H.out).mono ?_
  rintro e w3 ⟨rfl, hi, hb, hk⟩
  clear HI HB BK hk
  have HI := Aside0.mk hi
  have HB := Aside0.mk hb
  clear hi hb
  go_wp2_with fail
  refine (crierroom_Count_Ok.calls g _ _ _ w _ HI.out HB.out rfl).mono ?_
  rintro e w4 ⟨rfl, hi, hb, hk⟩
  have n0_ := Aside0.mk hb
  clear HI HB hk hi hb
  go_wp2
  go_ret
  exact ⟨rfl, n0_.out⟩
end Go.Proofs.YtndhkgfeknkfdaaGreatDoor.Pk
