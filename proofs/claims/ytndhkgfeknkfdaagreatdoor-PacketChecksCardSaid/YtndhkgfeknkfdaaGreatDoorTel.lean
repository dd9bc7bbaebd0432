/- crierlaw2.tells: of two packets that hold the same the program and the reference tell the same. -/
import Derived.Test.YtndhkgfeknkfdaaGreatDoorRck
import Derived.Test.YtndhkgfeknkfdaaGreatDoorRlw
import Derived.Test.YtndhkgfeknkfdaaGreatDoorRsa
import Derived.Test.YtndhkgfeknkfdaaGreatDoorBx
namespace Go.Proofs.YtndhkgfeknkfdaaGreatDoor.Pk
open Go.RowKit Go.Proofs.YtndhkgfeknkfdaaGreatDoor.Giv Go.Proofs.YtndhkgfeknkfdaaGreatDoorW.PrintWords Go.Proofs.YtndhkgfeknkfdaaGreatDoorW.PrintLast Go.Proofs.YtndhkgfeknkfdaaGreatDoorW.PrintMore Go.Proofs.YtndhkgfeknkfdaaGreatDoor.MPacketChecks
set_option linter.unusedVariables false
set_option linter.unusedSimpArgs false
set_option maxHeartbeats 8000000
set_option maxRecDepth 100000
theorem size_of {p : P} (hs : p.sum ≤ 900000) : p.a4.size ≤ 1000000 ∧ p.a6.size ≤ 1000000 ∧ p.a11.size ≤ 1000000 ∧ p.a17.size ≤ 1000000 ∧ (p.l7.length : Int) ≤ 1000000 ∧ (p.l13.length : Int) ≤ 1000000 ∧ (p.l18.length : Int) ≤ 1000000 ∧ (p.l22.length : Int) ≤ 1000000 ∧ (p.l23.length : Int) ≤ 1000000 ∧ (p.l24.length : Int) ≤ 1000000 ∧ (∀ y ∈ p.l22, y.f0.size ≤ 1000000) ∧ (∀ y ∈ p.l24, y.size ≤ 1000000) := by
  have h1 := sumA_len p.l22
  have h2 := sumT_len p.l24
  unfold P.sum at hs
  refine ⟨by omega, by omega, by omega, by omega, by omega, by omega, by omega, by omega, by omega, by omega, fun y hy => ?_, fun y hy => ?_⟩
  · have := sumA_mem hy; omega
  · have := sumT_mem hy; omega
theorem rCheck_P (a0 : Int) (a1 : Int) (a2 : Bool) (a3 : Int) (a4 : ByteArray) (a5 : Bool) (a6 : ByteArray) (A7 : Option Addr) (c7 : Nat) (l7 : List Int) (a8 : Int) (a9 : Bool) (a10 : Bool) (a11 : ByteArray) (a12 : Bool) (A13 : Option Addr) (c13 : Nat) (l13 : List Int) (a14 : Bool) (a15 : Int) (a16 : Bool) (a17 : ByteArray) (A18 : Option Addr) (c18 : Nat) (l18 : List Int) (a19 : Int) (a20 : Bool) (a21 : Int) (A22 : Option Addr) (c22 : Nat) (l22 : List S82) (A23 : Option Addr) (c23 : Nat) (l23 : List Int) (A24 : Option Addr) (c24 : Nat) (l24 : List ByteArray) (w : World) (hr : Rd w A7 c7 l7 A13 c13 l13 A18 c18 l18 A22 c22 l22 A23 c23 l23 A24 c24 l24) (hs : P.sum ⟨a0, a1, a2, a3, a4, a5, a6, l7, a8, a9, a10, a11, a12, l13, a14, a15, a16, a17, l18, a19, a20, a21, l22, l23, l24⟩ ≤ 900000) : Calls Tryz.prog 25 #[.agg #[.int .i64 a0, .int .i64 a1, .bool a2, .int .i64 a3, .string a4, .bool a5, .string a6, .slice A7 l7.length c7, .int .i64 a8, .bool a9, .bool a10, .string a11, .bool a12, .slice A13 l13.length c13, .bool a14, .int .i64 a15, .bool a16, .string a17, .slice A18 l18.length c18, .int .i64 a19, .bool a20, .int .i64 a21, .slice A22 l22.length c22, .slice A23 l23.length c23, .slice A24 l24.length c24]] w fun e w' => e = .returned (.int .i64 (P.check ⟨a0, a1, a2, a3, a4, a5, a6, l7, a8, a9, a10, a11, a12, l13, a14, a15, a16, a17, l18, a19, a20, a21, l22, l23, l24⟩)) ∧ Below w.heap.size w w' := by
  obtain ⟨s4, s6, s11, s17, s7, s13, s18, s22, s23, s24, m22, m24⟩ := size_of hs
  exact rCheck_calls a0 a1 a2 a3 a4 a5 a6 A7 c7 l7 a8 a9 a10 a11 a12 A13 c13 l13 a14 a15 a16 a17 A18 c18 l18 a19 a20 a21 A22 c22 l22 A23 c23 l23 A24 c24 l24 (numberedV a0 a19) (smV a6 l7 a8 a9) (smV a17 l18 a19 a20) (P.rfo ⟨a0, a1, a2, a3, a4, a5, a6, l7, a8, a9, a10, a11, a12, l13, a14, a15, a16, a17, l18, a19, a20, a21, l22, l23, l24⟩) (txtV a4) (txtV a11) (P.rtp ⟨a0, a1, a2, a3, a4, a5, a6, l7, a8, a9, a10, a11, a12, l13, a14, a15, a16, a17, l18, a19, a20, a21, l22, l23, l24⟩) (filtersV l22 l24) (P.rql ⟨a0, a1, a2, a3, a4, a5, a6, l7, a8, a9, a10, a11, a12, l13, a14, a15, a16, a17, l18, a19, a20, a21, l22, l23, l24⟩) 20000001 20000001 (20000004 + l24.length + l22.length) (l23.length + 3 + l22.length) (P.check ⟨a0, a1, a2, a3, a4, a5, a6, l7, a8, a9, a10, a11, a12, l13, a14, a15, a16, a17, l18, a19, a20, a21, l22, l23, l24⟩) w hr (by omega)
    (zero_some _ _ _ _) (zero_some _ _ _ _) (num_some ⟨a0, a1, a2, a3, a4, a5, a6, l7, a8, a9, a10, a11, a12, l13, a14, a15, a16, a17, l18, a19, a20, a21, l22, l23, l24⟩) rfl (text_some5 _ s4 _ (by omega)) (text_some5 _ s11 _ (by omega)) (topics_some ⟨a0, a1, a2, a3, a4, a5, a6, l7, a8, a9, a10, a11, a12, l13, a14, a15, a16, a17, l18, a19, a20, a21, l22, l23, l24⟩ s6 s17 _ (by omega)) (filters_some ⟨a0, a1, a2, a3, a4, a5, a6, l7, a8, a9, a10, a11, a12, l13, a14, a15, a16, a17, l18, a19, a20, a21, l22, l23, l24⟩ (by have h_ : (l24.length : Int) ≤ 1000000 := s24; show (l24.length : Int) ≤ _; omega) m24 (by have h_ : (l22.length : Int) ≤ 1000000 := s22; show (l22.length : Int) ≤ _; omega) m22) (qualities_some ⟨a0, a1, a2, a3, a4, a5, a6, l7, a8, a9, a10, a11, a12, l13, a14, a15, a16, a17, l18, a19, a20, a21, l22, l23, l24⟩ (by have h_ : (l23.length : Int) ≤ 1000000 := s23; show (l23.length : Int) ≤ _; omega) (by have h_ : (l22.length : Int) ≤ 1000000 := s22; show (l22.length : Int) ≤ _; omega)) (check_law ⟨a0, a1, a2, a3, a4, a5, a6, l7, a8, a9, a10, a11, a12, l13, a14, a15, a16, a17, l18, a19, a20, a21, l22, l23, l24⟩).symm
theorem rFlags_P (a0 : Int) (a1 : Int) (a2 : Bool) (a3 : Int) (a4 : ByteArray) (a5 : Bool) (a6 : ByteArray) (A7 : Option Addr) (c7 : Nat) (l7 : List Int) (a8 : Int) (a9 : Bool) (a10 : Bool) (a11 : ByteArray) (a12 : Bool) (A13 : Option Addr) (c13 : Nat) (l13 : List Int) (a14 : Bool) (a15 : Int) (a16 : Bool) (a17 : ByteArray) (A18 : Option Addr) (c18 : Nat) (l18 : List Int) (a19 : Int) (a20 : Bool) (a21 : Int) (A22 : Option Addr) (c22 : Nat) (l22 : List S82) (A23 : Option Addr) (c23 : Nat) (l23 : List Int) (A24 : Option Addr) (c24 : Nat) (l24 : List ByteArray) (w : World) (hr : Rd w A7 c7 l7 A13 c13 l13 A18 c18 l18 A22 c22 l22 A23 c23 l23 A24 c24 l24) (hs : P.sum ⟨a0, a1, a2, a3, a4, a5, a6, l7, a8, a9, a10, a11, a12, l13, a14, a15, a16, a17, l18, a19, a20, a21, l22, l23, l24⟩ ≤ 900000) : Calls Tryz.prog 27 #[.agg #[.int .i64 a0, .int .i64 a1, .bool a2, .int .i64 a3, .string a4, .bool a5, .string a6, .slice A7 l7.length c7, .int .i64 a8, .bool a9, .bool a10, .string a11, .bool a12, .slice A13 l13.length c13, .bool a14, .int .i64 a15, .bool a16, .string a17, .slice A18 l18.length c18, .int .i64 a19, .bool a20, .int .i64 a21, .slice A22 l22.length c22, .slice A23 l23.length c23, .slice A24 l24.length c24]] w fun e w' => e = .returned (.int .i64 (P.flags ⟨a0, a1, a2, a3, a4, a5, a6, l7, a8, a9, a10, a11, a12, l13, a14, a15, a16, a17, l18, a19, a20, a21, l22, l23, l24⟩)) ∧ Below w.heap.size w w' := by
  refine (rFlags_calls a0 a1 a2 a3 a4 a5 a6 A7 c7 l7 a8 a9 a10 a11 a12 A13 c13 l13 a14 a15 a16 a17 A18 c18 l18 a19 a20 a21 A22 c22 l22 A23 c23 l23 A24 c24 l24 (P.check ⟨a0, a1, a2, a3, a4, a5, a6, l7, a8, a9, a10, a11, a12, l13, a14, a15, a16, a17, l18, a19, a20, a21, l22, l23, l24⟩) w (fun w' hb => rCheck_P a0 a1 a2 a3 a4 a5 a6 A7 c7 l7 a8 a9 a10 a11 a12 A13 c13 l13 a14 a15 a16 a17 A18 c18 l18 a19 a20 a21 A22 c22 l22 A23 c23 l23 A24 c24 l24 w' (hr.below hb) hs) (fun h _ => ?_)).mono ?_
  · have h4 := (check_zero h).2.2.2
    have h5 : isQ a19 = true := h4
    unfold isQ at h5
    simp only [Bool.and_eq_true, decide_eq_true_eq] at h5
    exact h5
  · rintro e w' ⟨rfl, hb⟩
    exact ⟨congrArg (fun z => Ending.returned (.int .i64 z)) (flags_law ⟨a0, a1, a2, a3, a4, a5, a6, l7, a8, a9, a10, a11, a12, l13, a14, a15, a16, a17, l18, a19, a20, a21, l22, l23, l24⟩), hb⟩
theorem rLength_P (a0 : Int) (a1 : Int) (a2 : Bool) (a3 : Int) (a4 : ByteArray) (a5 : Bool) (a6 : ByteArray) (A7 : Option Addr) (c7 : Nat) (l7 : List Int) (a8 : Int) (a9 : Bool) (a10 : Bool) (a11 : ByteArray) (a12 : Bool) (A13 : Option Addr) (c13 : Nat) (l13 : List Int) (a14 : Bool) (a15 : Int) (a16 : Bool) (a17 : ByteArray) (A18 : Option Addr) (c18 : Nat) (l18 : List Int) (a19 : Int) (a20 : Bool) (a21 : Int) (A22 : Option Addr) (c22 : Nat) (l22 : List S82) (A23 : Option Addr) (c23 : Nat) (l23 : List Int) (A24 : Option Addr) (c24 : Nat) (l24 : List ByteArray) (w : World) (hr : Rd w A7 c7 l7 A13 c13 l13 A18 c18 l18 A22 c22 l22 A23 c23 l23 A24 c24 l24) (hs : P.sum ⟨a0, a1, a2, a3, a4, a5, a6, l7, a8, a9, a10, a11, a12, l13, a14, a15, a16, a17, l18, a19, a20, a21, l22, l23, l24⟩ ≤ 900000) : Calls Tryz.prog 29 #[.agg #[.int .i64 a0, .int .i64 a1, .bool a2, .int .i64 a3, .string a4, .bool a5, .string a6, .slice A7 l7.length c7, .int .i64 a8, .bool a9, .bool a10, .string a11, .bool a12, .slice A13 l13.length c13, .bool a14, .int .i64 a15, .bool a16, .string a17, .slice A18 l18.length c18, .int .i64 a19, .bool a20, .int .i64 a21, .slice A22 l22.length c22, .slice A23 l23.length c23, .slice A24 l24.length c24]] w fun e w' => e = .returned (.int .i64 (P.length ⟨a0, a1, a2, a3, a4, a5, a6, l7, a8, a9, a10, a11, a12, l13, a14, a15, a16, a17, l18, a19, a20, a21, l22, l23, l24⟩)) ∧ Below w.heap.size w w' := by
  refine (rLength_calls a0 a1 a2 a3 a4 a5 a6 A7 c7 l7 a8 a9 a10 a11 a12 A13 c13 l13 a14 a15 a16 a17 A18 c18 l18 a19 a20 a21 A22 c22 l22 A23 c23 l23 A24 c24 l24 (numberedV a0 a19) (P.check ⟨a0, a1, a2, a3, a4, a5, a6, l7, a8, a9, a10, a11, a12, l13, a14, a15, a16, a17, l18, a19, a20, a21, l22, l23, l24⟩) w hr (num_some ⟨a0, a1, a2, a3, a4, a5, a6, l7, a8, a9, a10, a11, a12, l13, a14, a15, a16, a17, l18, a19, a20, a21, l22, l23, l24⟩) (by omega) (fun w' hb => rCheck_P a0 a1 a2 a3 a4 a5 a6 A7 c7 l7 a8 a9 a10 a11 a12 A13 c13 l13 a14 a15 a16 a17 A18 c18 l18 a19 a20 a21 A22 c22 l22 A23 c23 l23 A24 c24 l24 w' (hr.below hb) hs)).mono ?_
  rintro e w' ⟨rfl, hb⟩
  exact ⟨congrArg (fun z => Ending.returned (.int .i64 z)) (length_law ⟨a0, a1, a2, a3, a4, a5, a6, l7, a8, a9, a10, a11, a12, l13, a14, a15, a16, a17, l18, a19, a20, a21, l22, l23, l24⟩), hb⟩
theorem flagsT_below {w w2 : World} (h : Kin.FlagsT w) (hb : Below w.heap.size w w2) : Kin.FlagsT w2 := fun i hi => by
  rw [Below.cell hb (Cr_cell_lt (h i hi))]; exact h i hi
theorem rangeAt_block {w : World} {g : Nat} {cs : Array Value} {t : TypeId} {fr : Nat × Nat} (h : w.heap[g]? = some (.cells cs t fr)) : w.rangeAt g 0 cs.toList := fun j v hv => by
  rw [Nat.zero_add, cell_of_row w g j cs t fr h]
  simpa using hv
theorem tells_calls (a0 : Int) (a1 : Int) (a2 : Bool) (a3 : Int) (a4 : ByteArray) (a5 : Bool) (a6 : ByteArray) (A7 : Option Addr) (c7 : Nat) (l7 : List Int) (a8 : Int) (a9 : Bool) (a10 : Bool) (a11 : ByteArray) (a12 : Bool) (A13 : Option Addr) (c13 : Nat) (l13 : List Int) (a14 : Bool) (a15 : Int) (a16 : Bool) (a17 : ByteArray) (A18 : Option Addr) (c18 : Nat) (l18 : List Int) (a19 : Int) (a20 : Bool) (a21 : Int) (A22 : Option Addr) (c22 : Nat) (l22 : List S82) (A23 : Option Addr) (c23 : Nat) (l23 : List Int) (A24 : Option Addr) (c24 : Nat) (l24 : List ByteArray) (B7 : Option Addr) (d7 : Nat) (B13 : Option Addr) (d13 : Nat) (B18 : Option Addr) (d18 : Nat) (B22 : Option Addr) (d22 : Nat) (B23 : Option Addr) (d23 : Nat) (B24 : Option Addr) (d24 : Nat) (w : World) (hT : HasT w) (hF : Kin.FlagsT w) (hp : Rd w A7 c7 l7 A13 c13 l13 A18 c18 l18 A22 c22 l22 A23 c23 l23 A24 c24 l24) (hq : Rd w B7 d7 l7 B13 d13 l13 B18 d18 l18 B22 d22 l22 B23 d23 l23 B24 d24 l24) (hs : P.sum ⟨a0, a1, a2, a3, a4, a5, a6, l7, a8, a9, a10, a11, a12, l13, a14, a15, a16, a17, l18, a19, a20, a21, l22, l23, l24⟩ ≤ 900000) :
    Calls Tryz.prog 7 #[.agg #[.int .i64 a0, .int .i64 a1, .bool a2, .int .i64 a3, .string a4, .bool a5, .string a6, .slice A7 l7.length c7, .int .i64 a8, .bool a9, .bool a10, .string a11, .bool a12, .slice A13 l13.length c13, .bool a14, .int .i64 a15, .bool a16, .string a17, .slice A18 l18.length c18, .int .i64 a19, .bool a20, .int .i64 a21, .slice A22 l22.length c22, .slice A23 l23.length c23, .slice A24 l24.length c24], .agg #[.int .i64 a0, .int .i64 a1, .bool a2, .int .i64 a3, .string a4, .bool a5, .string a6, .slice B7 l7.length d7, .int .i64 a8, .bool a9, .bool a10, .string a11, .bool a12, .slice B13 l13.length d13, .bool a14, .int .i64 a15, .bool a16, .string a17, .slice B18 l18.length d18, .int .i64 a19, .bool a20, .int .i64 a21, .slice B22 l22.length d22, .slice B23 l23.length d23, .slice B24 l24.length d24]] w fun e w' => e = .returned (.bool true) ∧ Below w.heap.size w w' := by
  have hu29 := Tryz.underlying29
  have hu24 := Tryz.underlying24
  have S17 := Aside0.mk (size_of hs).2.2.2.1
  have HP := Aside0.mk hp; have HQ := Aside0.mk hq; have HT := Aside0.mk hT; have HF := Aside0.mk hF; have HS := Aside0.mk hs
  clear hp hq hT hF hs
  have HB := Aside0.mk (Below.refl w.heap.size w)
  go_enter Tryz.func7, Tryz.ntmps7
  go_upto_region 1 with (first | ((with_reducible refine gate_dst (N := 2) rfl ?_); refine box_event ?hg2 (N := 2) ?hd2 (cs := #[.int .i64 a0, .int .i64 a1, .bool a2, .int .i64 a3, .string a4, .bool a5, .string a6, .slice A7 l7.length c7, .int .i64 a8, .bool a9, .bool a10, .string a11, .bool a12, .slice A13 l13.length c13, .bool a14, .int .i64 a15, .bool a16, .string a17, .slice A18 l18.length c18, .int .i64 a19, .bool a20, .int .i64 a21, .slice A22 l22.length c22, .slice A23 l23.length c23, .slice A24 l24.length c24]) (t := 29) ?hr2 ?_; (case hd2 => rfl); (case hg2 => rfl); (case hr2 => first | (go_simp; done) | (go_simp; rfl)); intro ga hg wa_ hbox hb; have BK := Aside0.mk hbox; have n0_ := Aside0.mk (below_step HB.out hb); clear HB; have HB := n0_; clear n0_ hb hbox hg) | ((with_reducible refine gate_dst (N := 3) rfl ?_); refine box_event ?hg3 (N := 3) ?hd3 (cs := #[.int .i64 a0, .int .i64 a1, .bool a2, .int .i64 a3, .string a4, .bool a5, .string a6, .slice B7 l7.length d7, .int .i64 a8, .bool a9, .bool a10, .string a11, .bool a12, .slice B13 l13.length d13, .bool a14, .int .i64 a15, .bool a16, .string a17, .slice B18 l18.length d18, .int .i64 a19, .bool a20, .int .i64 a21, .slice B22 l22.length d22, .slice B23 l23.length d23, .slice B24 l24.length d24]) (t := 29) ?hr3 ?_; (case hd3 => rfl); (case hg3 => rfl); (case hr3 => first | (go_simp; done) | (go_simp; rfl)); intro gb hg wo hbox hb; have BQ := Aside0.mk hbox; have n0_ := Aside0.mk (below_step HB.out hb); have n1_ := Aside0.mk (blk_below BK.out hb); clear HB BK; have HB := n0_; have BK := n1_; clear n0_ n1_ hb hbox hg))
  try simp only [Act.put, List.setIfInBounds_toArray, List.set_cons_zero, List.set_cons_succ]
  generalize (Value.agg #[.int .i64 a0, .int .i64 a1, .bool a2, .int .i64 a3, .string a4, .bool a5, .string a6, .slice A7 l7.length c7, .int .i64 a8, .bool a9, .bool a10, .string a11, .bool a12, .slice A13 l13.length c13, .bool a14, .int .i64 a15, .bool a16, .string a17, .slice A18 l18.length c18, .int .i64 a19, .bool a20, .int .i64 a21, .slice A22 l22.length c22, .slice A23 l23.length c23, .slice A24 l24.length c24]) = v0
  generalize (Value.agg #[.int .i64 a0, .int .i64 a1, .bool a2, .int .i64 a3, .string a4, .bool a5, .string a6, .slice B7 l7.length d7, .int .i64 a8, .bool a9, .bool a10, .string a11, .bool a12, .slice B13 l13.length d13, .bool a14, .int .i64 a15, .bool a16, .string a17, .slice B18 l18.length d18, .int .i64 a19, .bool a20, .int .i64 a21, .slice B22 l22.length d22, .slice B23 l23.length d23, .slice B24 l24.length d24]) = v1
  have HTo := Aside0.mk (HT.out.below HB.out); have HFo := Aside0.mk (flagsT_below HF.out HB.out); have HPo := Aside0.mk (HP.out.below HB.out); have HQo := Aside0.mk (HQ.out.below HB.out)
  refine wp_region_noPanic ?_
  refine wp_region_last_drew (S := fun W => Below wo.heap.size wo W) (ds := []) (by kernel_rfl) ?hS0 (fun hHeld => ?_)
  case hS0 => exact (Below.refl _ _).drew
  refine' wpAnyLast_take (i := 0) (oi := { dst := some 5, op := Go.Op.load 29 (Go.Operand.tmp 2), type := 29, pos := "exact.go:23", after := #[], guard := none }) (v := _) rfl (by kernel_rfl) (by kernel_rfl) (by kernel_rfl) (by kernel_rfl) (by kernel_rfl) (fun _ _ _ h => h) (yieldsIf_load_mid (by rfl) _ _ rfl _ _ rfl _ _ ?hS1 ?hu1 ?hd1 ?hi1) hHeld ?rest1
  case hS1 => (intro w_ hSw; (try dsimp only at hSw); exact rangeAt_block (blk_below BK.out hSw))
  case hu1 => exact hu29
  case hd1 => rfl
  case hi1 => kernel_rfl
  try simp only [Act.put, List.setIfInBounds_toArray, List.set_cons_zero, List.set_cons_succ]
  refine' wpAnyLast_take (i := 2) (oi := { dst := some 7, op := Go.Op.load 29 (Go.Operand.tmp 3), type := 29, pos := "exact.go:23", after := #[], guard := none }) (v := _) rfl (by kernel_rfl) (by kernel_rfl) (by kernel_rfl) (by kernel_rfl) (by kernel_rfl) (fun _ _ _ h => h) (yieldsIf_load_mid (by rfl) _ _ rfl _ _ rfl _ _ ?hS2 ?hu2 ?hd2 ?hi2) hHeld ?rest2
  case hS2 => (intro w_ hSw; (try dsimp only at hSw); exact rangeAt_block (blk_below BQ.out hSw))
  case hu2 => exact hu29
  case hd2 => rfl
  case hi2 => kernel_rfl
  try simp only [Act.put, List.setIfInBounds_toArray, List.set_cons_zero, List.set_cons_succ]
  refine wpAnyLast_ready (rs := [1]) (by kernel_rfl) (by simp) ?_
  refine AllReadyL.cons (o := { dst := some 6, op := Go.Op.call { callee := Go.Callee.value (Go.Operand.func 24), args := #[Go.Operand.tmp 5], argTypes := #[29] }, type := 74, pos := "exact.go:23", after := #[{ on := 0, ground := Go.Ground.data }], guard := none }) rfl (by decide) (fun K hK => ?_) AllReadyL.nil
  refine Rm.call_event (by rfl) 24 #[.agg #[.int .i64 a0, .int .i64 a1, .bool a2, .int .i64 a3, .string a4, .bool a5, .string a6, .slice A7 l7.length c7, .int .i64 a8, .bool a9, .bool a10, .string a11, .bool a12, .slice A13 l13.length c13, .bool a14, .int .i64 a15, .bool a16, .string a17, .slice A18 l18.length c18, .int .i64 a19, .bool a20, .int .i64 a21, .slice A22 l22.length c22, .slice A23 l23.length c23, .slice A24 l24.length c24]] (by first | rfl | (go_simp; done) | (go_simp; rfl)) (Check_P a0 a1 a2 a3 a4 a5 a6 A7 c7 l7 a8 a9 a10 a11 a12 A13 c13 l13 a14 a15 a16 a17 A18 c18 l18 a19 a20 a21 A22 c22 l22 A23 c23 l23 A24 c24 l24 _ (HTo.out.below hHeld) (HPo.out.below hHeld) (by have := HS.out; omega)) (fun e wi3_ hp => ?_)
  obtain ⟨he, hb⟩ := hp; subst he; refine ⟨_, rfl, ?_⟩; have hSn := below_step hHeld hb; clear hb
  refine hK.out _ _ hSn (fun hHeld2 => ?_)
  clear hK K hHeld hSn; have hHeld := hHeld2; clear hHeld2
  try simp only [Act.put, List.setIfInBounds_toArray, List.set_cons_zero, List.set_cons_succ]
  refine wpAnyLast_ready (rs := [3]) (by kernel_rfl) (by simp) ?_
  refine AllReadyL.cons (o := { dst := some 8, op := Go.Op.call { callee := Go.Callee.value (Go.Operand.func 25), args := #[Go.Operand.tmp 7], argTypes := #[29] }, type := 3, pos := "exact.go:23", after := #[{ on := 2, ground := Go.Ground.data }, { on := 1, ground := Go.Ground.chain }], guard := none }) rfl (by decide) (fun K hK => ?_) AllReadyL.nil
  refine Rm.call_event (by rfl) 25 #[.agg #[.int .i64 a0, .int .i64 a1, .bool a2, .int .i64 a3, .string a4, .bool a5, .string a6, .slice B7 l7.length d7, .int .i64 a8, .bool a9, .bool a10, .string a11, .bool a12, .slice B13 l13.length d13, .bool a14, .int .i64 a15, .bool a16, .string a17, .slice B18 l18.length d18, .int .i64 a19, .bool a20, .int .i64 a21, .slice B22 l22.length d22, .slice B23 l23.length d23, .slice B24 l24.length d24]] (by first | rfl | (go_simp; done) | (go_simp; rfl)) (rCheck_P a0 a1 a2 a3 a4 a5 a6 B7 d7 l7 a8 a9 a10 a11 a12 B13 d13 l13 a14 a15 a16 a17 B18 d18 l18 a19 a20 a21 B22 d22 l22 B23 d23 l23 B24 d24 l24 _ (HQo.out.below hHeld) HS.out) (fun e wi4_ hp => ?_)
  obtain ⟨he, hb⟩ := hp; subst he; refine ⟨_, rfl, ?_⟩; have hSn := below_step hHeld hb; clear hb
  refine hK.out _ _ hSn (fun hHeld2 => ?_)
  clear hK K hHeld hSn; have hHeld := hHeld2; clear hHeld2
  try simp only [Act.put, List.setIfInBounds_toArray, List.set_cons_zero, List.set_cons_succ]
  refine wpAnyLast_ready (rs := [4]) (by kernel_rfl) (by simp) ?_
  refine AllReadyL.cons (o := { dst := some 9, op := Go.Op.binOp Go.BinOp.eql 3 (Go.Operand.tmp 6) (Go.Operand.tmp 8) 3, type := 4, pos := "exact.go:23", after := #[{ on := 1, ground := Go.Ground.data }, { on := 3, ground := Go.Ground.data }], guard := none }) rfl (by decide) (fun K hK => ?_) AllReadyL.nil
  refine Rm.quiet_event (v := .bool true) (by rfl) ?hq5 ?_
  case hq5 => (first | (go_simp; done) | (go_simp; simp))
  have hSn := hHeld
  refine hK.out _ _ hSn (fun hHeld2 => ?_)
  clear hK K hHeld hSn; have hHeld := hHeld2; clear hHeld2
  try simp only [Act.put, List.setIfInBounds_toArray, List.set_cons_zero, List.set_cons_succ]
  refine wpAnyLast_take (i := 5) (oi := { dst := some 10, op := Go.Op.move (Go.Operand.tmp 9), type := 4, pos := "exact.go:23", after := #[{ on := 4, ground := Go.Ground.data }, { on := 3, ground := Go.Ground.chain }], guard := none }) (v := ?v6) rfl (by kernel_rfl) (by kernel_rfl) (by kernel_rfl) (by kernel_rfl) (by kernel_rfl) (fun _ _ _ h => h) (Or.inl ⟨by rfl, ?hy6⟩) hHeld ?rest6
  case hy6 => (intro w_ hSw; (try dsimp only at hSw); (try go_simp); (try with_reducible rfl))
  try simp only [Act.put, List.setIfInBounds_toArray, List.set_cons_zero, List.set_cons_succ]
  refine' wpAnyLast_take (i := 6) (oi := { dst := some 11, op := Go.Op.load 29 (Go.Operand.tmp 2), type := 29, pos := "exact.go:23", after := #[{ on := 5, ground := Go.Ground.guard }], guard := some (5, true) }) (v := _) rfl (by kernel_rfl) (by kernel_rfl) (by kernel_rfl) (by kernel_rfl) (by kernel_rfl) (fun _ _ _ h => h) (yieldsIf_load_mid (by rfl) _ _ rfl _ _ rfl _ _ ?hS7 ?hu7 ?hd7 ?hi7) hHeld ?rest7
  case hS7 => (intro w_ hSw; (try dsimp only at hSw); exact rangeAt_block (blk_below BK.out hSw))
  case hu7 => exact hu29
  case hd7 => rfl
  case hi7 => kernel_rfl
  try simp only [Act.put, List.setIfInBounds_toArray, List.set_cons_zero, List.set_cons_succ]
  refine' wpAnyLast_take (i := 8) (oi := { dst := some 13, op := Go.Op.load 29 (Go.Operand.tmp 3), type := 29, pos := "exact.go:23", after := #[{ on := 5, ground := Go.Ground.guard }], guard := some (5, true) }) (v := _) rfl (by kernel_rfl) (by kernel_rfl) (by kernel_rfl) (by kernel_rfl) (by kernel_rfl) (fun _ _ _ h => h) (yieldsIf_load_mid (by rfl) _ _ rfl _ _ rfl _ _ ?hS8 ?hu8 ?hd8 ?hi8) hHeld ?rest8
  case hS8 => (intro w_ hSw; (try dsimp only at hSw); exact rangeAt_block (blk_below BQ.out hSw))
  case hu8 => exact hu29
  case hd8 => rfl
  case hi8 => kernel_rfl
  try simp only [Act.put, List.setIfInBounds_toArray, List.set_cons_zero, List.set_cons_succ]
  refine wpAnyLast_ready (rs := [7]) (by kernel_rfl) (by simp) ?_
  refine AllReadyL.cons (o := { dst := some 12, op := Go.Op.call { callee := Go.Callee.value (Go.Operand.func 26), args := #[Go.Operand.tmp 11], argTypes := #[29] }, type := 3, pos := "exact.go:23", after := #[{ on := 6, ground := Go.Ground.data }, { on := 5, ground := Go.Ground.chain }, { on := 5, ground := Go.Ground.guard }], guard := some (5, true) }) rfl (by decide) (fun K hK => ?_) AllReadyL.nil
  refine Rm.call_event (by rfl) 26 #[.agg #[.int .i64 a0, .int .i64 a1, .bool a2, .int .i64 a3, .string a4, .bool a5, .string a6, .slice A7 l7.length c7, .int .i64 a8, .bool a9, .bool a10, .string a11, .bool a12, .slice A13 l13.length c13, .bool a14, .int .i64 a15, .bool a16, .string a17, .slice A18 l18.length c18, .int .i64 a19, .bool a20, .int .i64 a21, .slice A22 l22.length c22, .slice A23 l23.length c23, .slice A24 l24.length c24]] (by first | rfl | (go_simp; done) | (go_simp; rfl)) (Flags_P a0 a1 a2 a3 a4 a5 a6 A7 c7 l7 a8 a9 a10 a11 a12 A13 c13 l13 a14 a15 a16 a17 A18 c18 l18 a19 a20 a21 A22 c22 l22 A23 c23 l23 A24 c24 l24 _ (HTo.out.below hHeld) (flagsT_below HFo.out hHeld) (HPo.out.below hHeld) (by have := HS.out; omega)) (fun e wi9_ hp => ?_)
  obtain ⟨he, hb⟩ := hp; subst he; refine ⟨_, rfl, ?_⟩; have hSn := below_step hHeld hb; clear hb
  refine hK.out _ _ hSn (fun hHeld2 => ?_)
  clear hK K hHeld hSn; have hHeld := hHeld2; clear hHeld2
  try simp only [Act.put, List.setIfInBounds_toArray, List.set_cons_zero, List.set_cons_succ]
  refine wpAnyLast_ready (rs := [9]) (by kernel_rfl) (by simp) ?_
  refine AllReadyL.cons (o := { dst := some 14, op := Go.Op.call { callee := Go.Callee.value (Go.Operand.func 27), args := #[Go.Operand.tmp 13], argTypes := #[29] }, type := 3, pos := "exact.go:23", after := #[{ on := 8, ground := Go.Ground.data }, { on := 7, ground := Go.Ground.chain }, { on := 5, ground := Go.Ground.guard }], guard := some (5, true) }) rfl (by decide) (fun K hK => ?_) AllReadyL.nil
  refine Rm.call_event (by rfl) 27 #[.agg #[.int .i64 a0, .int .i64 a1, .bool a2, .int .i64 a3, .string a4, .bool a5, .string a6, .slice B7 l7.length d7, .int .i64 a8, .bool a9, .bool a10, .string a11, .bool a12, .slice B13 l13.length d13, .bool a14, .int .i64 a15, .bool a16, .string a17, .slice B18 l18.length d18, .int .i64 a19, .bool a20, .int .i64 a21, .slice B22 l22.length d22, .slice B23 l23.length d23, .slice B24 l24.length d24]] (by first | rfl | (go_simp; done) | (go_simp; rfl)) (rFlags_P a0 a1 a2 a3 a4 a5 a6 B7 d7 l7 a8 a9 a10 a11 a12 B13 d13 l13 a14 a15 a16 a17 B18 d18 l18 a19 a20 a21 B22 d22 l22 B23 d23 l23 B24 d24 l24 _ (HQo.out.below hHeld) HS.out) (fun e wi10_ hp => ?_)
  obtain ⟨he, hb⟩ := hp; subst he; refine ⟨_, rfl, ?_⟩; have hSn := below_step hHeld hb; clear hb
  refine hK.out _ _ hSn (fun hHeld2 => ?_)
  clear hK K hHeld hSn; have hHeld := hHeld2; clear hHeld2
  try simp only [Act.put, List.setIfInBounds_toArray, List.set_cons_zero, List.set_cons_succ]
  refine wpAnyLast_ready (rs := [10]) (by kernel_rfl) (by simp) ?_
  refine AllReadyL.cons (o := { dst := some 15, op := Go.Op.binOp Go.BinOp.eql 3 (Go.Operand.tmp 12) (Go.Operand.tmp 14) 3, type := 4, pos := "exact.go:23", after := #[{ on := 7, ground := Go.Ground.data }, { on := 9, ground := Go.Ground.data }, { on := 5, ground := Go.Ground.guard }], guard := some (5, true) }) rfl (by decide) (fun K hK => ?_) AllReadyL.nil
  refine Rm.quiet_event (v := .bool true) (by rfl) ?hq11 ?_
  case hq11 => (first | (go_simp; done) | (go_simp; simp))
  have hSn := hHeld
  refine hK.out _ _ hSn (fun hHeld2 => ?_)
  clear hK K hHeld hSn; have hHeld := hHeld2; clear hHeld2
  try simp only [Act.put, List.setIfInBounds_toArray, List.set_cons_zero, List.set_cons_succ]
  refine wpAnyLast_take (i := 11) (oi := { dst := some 16, op := Go.Op.pick (Go.Operand.tmp 10) (Go.Operand.tmp 15) (Go.Operand.const (Go.Value.bool false)), type := 4, pos := "exact.go:23", after := #[{ on := 5, ground := Go.Ground.data }, { on := 10, ground := Go.Ground.data }], guard := none }) (v := ?v12) rfl (by kernel_rfl) (by kernel_rfl) (by kernel_rfl) (by kernel_rfl) (by kernel_rfl) (fun _ _ _ h => h) (Or.inl ⟨by rfl, ?hy12⟩) hHeld ?rest12
  case hy12 => (intro w_ hSw; (try dsimp only at hSw); (try go_simp); (try with_reducible rfl))
  try simp only [Act.put, List.setIfInBounds_toArray, List.set_cons_zero, List.set_cons_succ]
  refine wpAnyLast_take (i := 12) (oi := { dst := some 17, op := Go.Op.move (Go.Operand.tmp 16), type := 4, pos := "exact.go:23", after := #[{ on := 11, ground := Go.Ground.data }, { on := 9, ground := Go.Ground.chain }], guard := none }) (v := ?v13) rfl (by kernel_rfl) (by kernel_rfl) (by kernel_rfl) (by kernel_rfl) (by kernel_rfl) (fun _ _ _ h => h) (Or.inl ⟨by rfl, ?hy13⟩) hHeld ?rest13
  case hy13 => (intro w_ hSw; (try dsimp only at hSw); (try go_simp); (try with_reducible rfl))
  try simp only [Act.put, List.setIfInBounds_toArray, List.set_cons_zero, List.set_cons_succ]
  refine' wpAnyLast_take (i := 13) (oi := { dst := some 18, op := Go.Op.load 29 (Go.Operand.tmp 2), type := 29, pos := "exact.go:23", after := #[{ on := 12, ground := Go.Ground.guard }], guard := some (12, true) }) (v := _) rfl (by kernel_rfl) (by kernel_rfl) (by kernel_rfl) (by kernel_rfl) (by kernel_rfl) (fun _ _ _ h => h) (yieldsIf_load_mid (by rfl) _ _ rfl _ _ rfl _ _ ?hS14 ?hu14 ?hd14 ?hi14) hHeld ?rest14
  case hS14 => (intro w_ hSw; (try dsimp only at hSw); exact rangeAt_block (blk_below BK.out hSw))
  case hu14 => exact hu29
  case hd14 => rfl
  case hi14 => kernel_rfl
  try simp only [Act.put, List.setIfInBounds_toArray, List.set_cons_zero, List.set_cons_succ]
  refine' wpAnyLast_take (i := 15) (oi := { dst := some 20, op := Go.Op.load 29 (Go.Operand.tmp 3), type := 29, pos := "exact.go:23", after := #[{ on := 12, ground := Go.Ground.guard }], guard := some (12, true) }) (v := _) rfl (by kernel_rfl) (by kernel_rfl) (by kernel_rfl) (by kernel_rfl) (by kernel_rfl) (fun _ _ _ h => h) (yieldsIf_load_mid (by rfl) _ _ rfl _ _ rfl _ _ ?hS15 ?hu15 ?hd15 ?hi15) hHeld ?rest15
  case hS15 => (intro w_ hSw; (try dsimp only at hSw); exact rangeAt_block (blk_below BQ.out hSw))
  case hu15 => exact hu29
  case hd15 => rfl
  case hi15 => kernel_rfl
  try simp only [Act.put, List.setIfInBounds_toArray, List.set_cons_zero, List.set_cons_succ]
  refine wpAnyLast_ready (rs := [14]) (by kernel_rfl) (by simp) ?_
  refine AllReadyL.cons (o := { dst := some 19, op := Go.Op.call { callee := Go.Callee.value (Go.Operand.func 28), args := #[Go.Operand.tmp 18], argTypes := #[29] }, type := 3, pos := "exact.go:23", after := #[{ on := 13, ground := Go.Ground.data }, { on := 12, ground := Go.Ground.chain }, { on := 12, ground := Go.Ground.guard }], guard := some (12, true) }) rfl (by decide) (fun K hK => ?_) AllReadyL.nil
  refine Rm.call_event (by rfl) 28 #[.agg #[.int .i64 a0, .int .i64 a1, .bool a2, .int .i64 a3, .string a4, .bool a5, .string a6, .slice A7 l7.length c7, .int .i64 a8, .bool a9, .bool a10, .string a11, .bool a12, .slice A13 l13.length c13, .bool a14, .int .i64 a15, .bool a16, .string a17, .slice A18 l18.length c18, .int .i64 a19, .bool a20, .int .i64 a21, .slice A22 l22.length c22, .slice A23 l23.length c23, .slice A24 l24.length c24]] (by first | rfl | (go_simp; done) | (go_simp; rfl)) (Length_P a0 a1 a2 a3 a4 a5 a6 A7 c7 l7 a8 a9 a10 a11 a12 A13 c13 l13 a14 a15 a16 a17 A18 c18 l18 a19 a20 a21 A22 c22 l22 A23 c23 l23 A24 c24 l24 _ (HTo.out.below hHeld) (HPo.out.below hHeld) (by have := HS.out; omega)) (fun e wi16_ hp => ?_)
  obtain ⟨he, hb⟩ := hp; subst he; refine ⟨_, rfl, ?_⟩; have hSn := below_step hHeld hb; clear hb
  refine hK.out _ _ hSn (fun hHeld2 => ?_)
  clear hK K hHeld hSn; have hHeld := hHeld2; clear hHeld2
  try simp only [Act.put, List.setIfInBounds_toArray, List.set_cons_zero, List.set_cons_succ]
  refine wpAnyLast_ready (rs := [16]) (by kernel_rfl) (by simp) ?_
  refine AllReadyL.cons (o := { dst := some 21, op := Go.Op.call { callee := Go.Callee.value (Go.Operand.func 29), args := #[Go.Operand.tmp 20], argTypes := #[29] }, type := 3, pos := "exact.go:23", after := #[{ on := 15, ground := Go.Ground.data }, { on := 14, ground := Go.Ground.chain }, { on := 12, ground := Go.Ground.guard }], guard := some (12, true) }) rfl (by decide) (fun K hK => ?_) AllReadyL.nil
  refine Rm.call_event (by rfl) 29 #[.agg #[.int .i64 a0, .int .i64 a1, .bool a2, .int .i64 a3, .string a4, .bool a5, .string a6, .slice B7 l7.length d7, .int .i64 a8, .bool a9, .bool a10, .string a11, .bool a12, .slice B13 l13.length d13, .bool a14, .int .i64 a15, .bool a16, .string a17, .slice B18 l18.length d18, .int .i64 a19, .bool a20, .int .i64 a21, .slice B22 l22.length d22, .slice B23 l23.length d23, .slice B24 l24.length d24]] (by first | rfl | (go_simp; done) | (go_simp; rfl)) (rLength_P a0 a1 a2 a3 a4 a5 a6 B7 d7 l7 a8 a9 a10 a11 a12 B13 d13 l13 a14 a15 a16 a17 B18 d18 l18 a19 a20 a21 B22 d22 l22 B23 d23 l23 B24 d24 l24 _ (HQo.out.below hHeld) HS.out) (fun e wi17_ hp => ?_)
  obtain ⟨he, hb⟩ := hp; subst he; refine ⟨_, rfl, ?_⟩; have hSn := below_step hHeld hb; clear hb
  refine hK.out _ _ hSn (fun hHeld2 => ?_)
  clear hK K hHeld hSn; have hHeld := hHeld2; clear hHeld2
  try simp only [Act.put, List.setIfInBounds_toArray, List.set_cons_zero, List.set_cons_succ]
  refine wpAnyLast_ready (rs := [17]) (by kernel_rfl) (by simp) ?_
  refine AllReadyL.cons (o := { dst := some 22, op := Go.Op.binOp Go.BinOp.eql 3 (Go.Operand.tmp 19) (Go.Operand.tmp 21) 3, type := 4, pos := "exact.go:23", after := #[{ on := 14, ground := Go.Ground.data }, { on := 16, ground := Go.Ground.data }, { on := 12, ground := Go.Ground.guard }], guard := some (12, true) }) rfl (by decide) (fun K hK => ?_) AllReadyL.nil
  refine Rm.quiet_event (v := .bool true) (by rfl) ?hq18 ?_
  case hq18 => (first | (go_simp; done) | (go_simp; simp))
  have hSn := hHeld
  refine hK.out _ _ hSn (fun hHeld2 => ?_)
  clear hK K hHeld hSn; have hHeld := hHeld2; clear hHeld2
  try simp only [Act.put, List.setIfInBounds_toArray, List.set_cons_zero, List.set_cons_succ]
  refine wpAnyLast_take (i := 18) (oi := { dst := some 23, op := Go.Op.pick (Go.Operand.tmp 17) (Go.Operand.tmp 22) (Go.Operand.const (Go.Value.bool false)), type := 4, pos := "exact.go:23", after := #[{ on := 12, ground := Go.Ground.data }, { on := 17, ground := Go.Ground.data }], guard := none }) (v := ?v19) rfl (by kernel_rfl) (by kernel_rfl) (by kernel_rfl) (by kernel_rfl) (by kernel_rfl) (fun _ _ _ h => h) (Or.inl ⟨by rfl, ?hy19⟩) hHeld ?rest19
  case hy19 => (intro w_ hSw; (try dsimp only at hSw); (try go_simp); (try with_reducible rfl))
  try simp only [Act.put, List.setIfInBounds_toArray, List.set_cons_zero, List.set_cons_succ]
  refine wpAnyLast_take (i := 19) (oi := { dst := some 24, op := Go.Op.move (Go.Operand.tmp 23), type := 4, pos := "exact.go:23", after := #[{ on := 18, ground := Go.Ground.data }, { on := 16, ground := Go.Ground.chain }], guard := none }) (v := ?v20) rfl (by kernel_rfl) (by kernel_rfl) (by kernel_rfl) (by kernel_rfl) (by kernel_rfl) (fun _ _ _ h => h) (Or.inl ⟨by rfl, ?hy20⟩) hHeld ?rest20
  case hy20 => (intro w_ hSw; (try dsimp only at hSw); (try go_simp); (try with_reducible rfl))
  try simp only [Act.put, List.setIfInBounds_toArray, List.set_cons_zero, List.set_cons_succ]
  refine wpAnyLast_take (i := 20) (oi := { dst := some 25, op := Go.Op.fieldAddr 29 (Go.Operand.tmp 2) 14, type := 0, pos := "exact.go:23", after := #[{ on := 19, ground := Go.Ground.guard }], guard := some (19, true) }) (v := ?v21) rfl (by kernel_rfl) (by kernel_rfl) (by kernel_rfl) (by kernel_rfl) (by kernel_rfl) (fun _ _ _ h => h) (Or.inl ⟨by rfl, ?hy21⟩) hHeld ?rest21
  case hy21 => (intro w_ hSw; (try dsimp only at hSw); (try go_simp); (try with_reducible rfl))
  try simp only [Act.put, List.setIfInBounds_toArray, List.set_cons_zero, List.set_cons_succ]
  refine' wpAnyLast_take (i := 21) (oi := { dst := some 26, op := Go.Op.load 24 (Go.Operand.tmp 25), type := 24, pos := "exact.go:23", after := #[{ on := 20, ground := Go.Ground.data }, { on := 19, ground := Go.Ground.guard }], guard := some (19, true) }) (v := _) rfl (by kernel_rfl) (by kernel_rfl) (by kernel_rfl) (by kernel_rfl) (by kernel_rfl) (fun _ _ _ h => h) (yieldsIf_load_mid (by rfl) _ _ rfl _ _ rfl _ _ ?hS22 ?hu22 ?hd22 ?hi22) hHeld ?rest22
  case hS22 => (intro w_ hSw; (try dsimp only at hSw); exact rangeAt_sub (blk_below BK.out hSw) 17 4)
  case hu22 => exact hu24
  case hd22 => rfl
  case hi22 => kernel_rfl
  try simp only [Act.put, List.setIfInBounds_toArray, List.set_cons_zero, List.set_cons_succ]
  refine wpAnyLast_take (i := 23) (oi := { dst := some 28, op := Go.Op.fieldAddr 29 (Go.Operand.tmp 3) 14, type := 0, pos := "exact.go:23", after := #[{ on := 19, ground := Go.Ground.guard }], guard := some (19, true) }) (v := ?v23) rfl (by kernel_rfl) (by kernel_rfl) (by kernel_rfl) (by kernel_rfl) (by kernel_rfl) (fun _ _ _ h => h) (Or.inl ⟨by rfl, ?hy23⟩) hHeld ?rest23
  case hy23 => (intro w_ hSw; (try dsimp only at hSw); (try go_simp); (try with_reducible rfl))
  try simp only [Act.put, List.setIfInBounds_toArray, List.set_cons_zero, List.set_cons_succ]
  refine' wpAnyLast_take (i := 24) (oi := { dst := some 29, op := Go.Op.load 24 (Go.Operand.tmp 28), type := 24, pos := "exact.go:23", after := #[{ on := 23, ground := Go.Ground.data }, { on := 19, ground := Go.Ground.guard }], guard := some (19, true) }) (v := _) rfl (by kernel_rfl) (by kernel_rfl) (by kernel_rfl) (by kernel_rfl) (by kernel_rfl) (fun _ _ _ h => h) (yieldsIf_load_mid (by rfl) _ _ rfl _ _ rfl _ _ ?hS24 ?hu24 ?hd24 ?hi24) hHeld ?rest24
  case hS24 => (intro w_ hSw; (try dsimp only at hSw); exact rangeAt_sub (blk_below BQ.out hSw) 17 4)
  case hu24 => exact hu24
  case hd24 => rfl
  case hi24 => kernel_rfl
  try simp only [Act.put, List.setIfInBounds_toArray, List.set_cons_zero, List.set_cons_succ]
  refine wpAnyLast_ready (rs := [22]) (by kernel_rfl) (by simp) ?_
  refine AllReadyL.cons (o := { dst := some 27, op := Go.Op.call { callee := Go.Callee.value (Go.Operand.func 30), args := #[Go.Operand.tmp 26], argTypes := #[24] }, type := 74, pos := "exact.go:23", after := #[{ on := 21, ground := Go.Ground.data }, { on := 19, ground := Go.Ground.chain }, { on := 19, ground := Go.Ground.guard }], guard := some (19, true) }) rfl (by decide) (fun K hK => ?_) AllReadyL.nil
  refine Rm.call_event (by rfl) 30 #[.agg #[.string a17, .slice A18 l18.length c18, .int .i64 a19, .bool a20]] (by first | rfl | (go_simp; done) | (go_simp; rfl)) (packet_CheckMessage.calls a17 A18 c18 l18 a19 a20 _ _ (HPo.out.below hHeld).r18 HP.out.k18 (cm_prog _ _ _ _ S17.out)) (fun e wi25_ hp => ?_)
  obtain ⟨he, hb⟩ := hp; subst he; refine ⟨_, rfl, ?_⟩; have hSn := below_step hHeld hb; clear hb
  refine hK.out _ _ hSn (fun hHeld2 => ?_)
  clear hK K hHeld hSn; have hHeld := hHeld2; clear hHeld2
  try simp only [Act.put, List.setIfInBounds_toArray, List.set_cons_zero, List.set_cons_succ]
  refine wpAnyLast_ready (rs := [25]) (by kernel_rfl) (by simp) ?_
  refine AllReadyL.cons (o := { dst := some 30, op := Go.Op.call { callee := Go.Callee.value (Go.Operand.func 31), args := #[Go.Operand.tmp 29], argTypes := #[24] }, type := 3, pos := "exact.go:23", after := #[{ on := 24, ground := Go.Ground.data }, { on := 22, ground := Go.Ground.chain }, { on := 19, ground := Go.Ground.guard }], guard := some (19, true) }) rfl (by decide) (fun K hK => ?_) AllReadyL.nil
  refine Rm.call_event (by rfl) 31 #[.agg #[.string a17, .slice B18 l18.length d18, .int .i64 a19, .bool a20]] (by first | rfl | (go_simp; done) | (go_simp; rfl)) (crierref2_CheckMessage.calls 20000001 a17 B18 d18 l18 a19 a20 _ _ (HQo.out.below hHeld).r18 HQ.out.k18 (cm_ref _ _ _ _ S17.out _ (by omega))) (fun e wi26_ hp => ?_)
  obtain ⟨he, hb⟩ := hp; subst he; refine ⟨_, rfl, ?_⟩; have hSn := below_step hHeld hb; clear hb
  refine hK.out _ _ hSn (fun hHeld2 => ?_)
  clear hK K hHeld hSn; have hHeld := hHeld2; clear hHeld2
  try simp only [Act.put, List.setIfInBounds_toArray, List.set_cons_zero, List.set_cons_succ]
  refine wpAnyLast_ready (rs := [26]) (by kernel_rfl) (by simp) ?_
  refine AllReadyL.cons (o := { dst := some 31, op := Go.Op.binOp Go.BinOp.eql 3 (Go.Operand.tmp 27) (Go.Operand.tmp 30) 3, type := 4, pos := "exact.go:23", after := #[{ on := 22, ground := Go.Ground.data }, { on := 25, ground := Go.Ground.data }, { on := 19, ground := Go.Ground.guard }], guard := some (19, true) }) rfl (by decide) (fun K hK => ?_) AllReadyL.nil
  refine Rm.quiet_event (v := .bool true) (by rfl) ?hq27 ?_
  case hq27 => (first | (go_simp; done) | (go_simp; simp))
  have hSn := hHeld
  refine hK.out _ _ hSn (fun hHeld2 => ?_)
  clear hK K hHeld hSn; have hHeld := hHeld2; clear hHeld2
  try simp only [Act.put, List.setIfInBounds_toArray, List.set_cons_zero, List.set_cons_succ]
  refine wpAnyLast_take (i := 27) (oi := { dst := some 32, op := Go.Op.pick (Go.Operand.tmp 24) (Go.Operand.tmp 31) (Go.Operand.const (Go.Value.bool false)), type := 4, pos := "exact.go:23", after := #[{ on := 19, ground := Go.Ground.data }, { on := 26, ground := Go.Ground.data }], guard := none }) (v := ?v28) rfl (by kernel_rfl) (by kernel_rfl) (by kernel_rfl) (by kernel_rfl) (by kernel_rfl) (fun _ _ _ h => h) (Or.inl ⟨by rfl, ?hy28⟩) hHeld ?rest28
  case hy28 => (intro w_ hSw; (try dsimp only at hSw); (try go_simp); (try with_reducible rfl))
  try simp only [Act.put, List.setIfInBounds_toArray, List.set_cons_zero, List.set_cons_succ]
  refine wpAnyLast_take (i := 28) (oi := { dst := some 4, op := Go.Op.assign (Go.Operand.tmp 32), type := 4, pos := "exact.go:23", after := #[{ on := 27, ground := Go.Ground.data }, { on := 25, ground := Go.Ground.chain }, { on := 0, ground := Go.Ground.phase }, { on := 1, ground := Go.Ground.phase }, { on := 2, ground := Go.Ground.phase }, { on := 3, ground := Go.Ground.phase }, { on := 4, ground := Go.Ground.phase }, { on := 5, ground := Go.Ground.phase }, { on := 6, ground := Go.Ground.phase }, { on := 7, ground := Go.Ground.phase }, { on := 8, ground := Go.Ground.phase }, { on := 9, ground := Go.Ground.phase }, { on := 10, ground := Go.Ground.phase }, { on := 11, ground := Go.Ground.phase }, { on := 12, ground := Go.Ground.phase }, { on := 13, ground := Go.Ground.phase }, { on := 14, ground := Go.Ground.phase }, { on := 15, ground := Go.Ground.phase }, { on := 16, ground := Go.Ground.phase }, { on := 17, ground := Go.Ground.phase }, { on := 18, ground := Go.Ground.phase }, { on := 19, ground := Go.Ground.phase }, { on := 20, ground := Go.Ground.phase }, { on := 21, ground := Go.Ground.phase }, { on := 22, ground := Go.Ground.phase }, { on := 23, ground := Go.Ground.phase }, { on := 24, ground := Go.Ground.phase }, { on := 25, ground := Go.Ground.phase }, { on := 26, ground := Go.Ground.phase }, { on := 27, ground := Go.Ground.phase }], guard := none }) (v := ?v29) rfl (by kernel_rfl) (by kernel_rfl) (by kernel_rfl) (by kernel_rfl) (by kernel_rfl) (fun _ _ _ h => h) (Or.inl ⟨by rfl, ?hy29⟩) hHeld ?rest29
  case hy29 => (intro w_ hSw; (try dsimp only at hSw); (try go_simp); (try with_reducible rfl))
  try simp only [Act.put, List.setIfInBounds_toArray, List.set_cons_zero, List.set_cons_succ]
  refine wpAnyLast_done (by kernel_rfl) ?_ _
  refine NoPanic.normal ?_
  go_wp2
  go_ret
  exact ⟨rfl, below_step HB.out hHeld⟩
end Go.Proofs.YtndhkgfeknkfdaaGreatDoor.Pk
