/- packet.Same tells whether two packets are alike. -/
import Derived.Test.YtipliohgnaoblaaDoorSam
import Derived.Test.YtipliohgnaoblaaDoorLar
namespace Go.Proofs.YtipliohgnaoblaaDoor.Pk
open Go.RowKit Go.Proofs.YtipliohgnaoblaaDoor.Giv Go.Proofs.YtipliohgnaoblaaDoorW.PrintWords Go.Proofs.YtipliohgnaoblaaDoorW.PrintLast Go.Proofs.YtipliohgnaoblaaDoorW.PrintMore Go.Proofs.YtipliohgnaoblaaDoor.MPacketStays
set_option linter.unusedVariables false
set_option linter.unusedSimpArgs false
set_option maxHeartbeats 2000000
set_option maxRecDepth 100000
theorem sum_lists {p : P} (h : p.sum ≤ 4294967280) : (p.l22.length : Int) ≤ 4611686018427387904 ∧ (p.l23.length : Int) ≤ 4611686018427387904 ∧ (p.l24.length : Int) ≤ 4611686018427387904 := by
  have h1 := sumA_len p.l22
  have h2 := sumT_len p.l24
  unfold P.sum at h
  omega
theorem Same_P (a0 : Int) (a1 : Int) (a2 : Bool) (a3 : Int) (a4 : ByteArray) (a5 : Bool) (a6 : ByteArray) (A7 : Option Addr) (c7 : Nat) (l7 : List Int) (a8 : Int) (a9 : Bool) (a10 : Bool) (a11 : ByteArray) (a12 : Bool) (A13 : Option Addr) (c13 : Nat) (l13 : List Int) (a14 : Bool) (a15 : Int) (a16 : Bool) (a17 : ByteArray) (A18 : Option Addr) (c18 : Nat) (l18 : List Int) (a19 : Int) (a20 : Bool) (a21 : Int) (A22 : Option Addr) (c22 : Nat) (l22 : List S45) (A23 : Option Addr) (c23 : Nat) (l23 : List Int) (A24 : Option Addr) (c24 : Nat) (l24 : List ByteArray) (qa0 : Int) (qa1 : Int) (qa2 : Bool) (qa3 : Int) (qa4 : ByteArray) (qa5 : Bool) (qa6 : ByteArray) (qA7 : Option Addr) (qc7 : Nat) (ql7 : List Int) (qa8 : Int) (qa9 : Bool) (qa10 : Bool) (qa11 : ByteArray) (qa12 : Bool) (qA13 : Option Addr) (qc13 : Nat) (ql13 : List Int) (qa14 : Bool) (qa15 : Int) (qa16 : Bool) (qa17 : ByteArray) (qA18 : Option Addr) (qc18 : Nat) (ql18 : List Int) (qa19 : Int) (qa20 : Bool) (qa21 : Int) (qA22 : Option Addr) (qc22 : Nat) (ql22 : List S45) (qA23 : Option Addr) (qc23 : Nat) (ql23 : List Int) (qA24 : Option Addr) (qc24 : Nat) (ql24 : List ByteArray) (R : Bool) (w : World) (hP : Rd w A7 c7 l7 A13 c13 l13 A18 c18 l18 A22 c22 l22 A23 c23 l23 A24 c24 l24) (hQ : Rd w qA7 qc7 ql7 qA13 qc13 ql13 qA18 qc18 ql18 qA22 qc22 ql22 qA23 qc23 ql23 qA24 qc24 ql24) (hs : P.sum ⟨a0, a1, a2, a3, a4, a5, a6, l7, a8, a9, a10, a11, a12, l13, a14, a15, a16, a17, l18, a19, a20, a21, l22, l23, l24⟩ ≤ 4294967280) (hR : R = true ↔ Alike ⟨a0, a1, a2, a3, a4, a5, a6, l7, a8, a9, a10, a11, a12, l13, a14, a15, a16, a17, l18, a19, a20, a21, l22, l23, l24⟩ ⟨qa0, qa1, qa2, qa3, qa4, qa5, qa6, ql7, qa8, qa9, qa10, qa11, qa12, ql13, qa14, qa15, qa16, qa17, ql18, qa19, qa20, qa21, ql22, ql23, ql24⟩) :
    Calls Tryd.prog 14 #[.agg #[.int .i64 a0, .int .i64 a1, .bool a2, .int .i64 a3, .string a4, .bool a5, .string a6, .slice A7 l7.length c7, .int .i64 a8, .bool a9, .bool a10, .string a11, .bool a12, .slice A13 l13.length c13, .bool a14, .int .i64 a15, .bool a16, .string a17, .slice A18 l18.length c18, .int .i64 a19, .bool a20, .int .i64 a21, .slice A22 l22.length c22, .slice A23 l23.length c23, .slice A24 l24.length c24], .agg #[.int .i64 qa0, .int .i64 qa1, .bool qa2, .int .i64 qa3, .string qa4, .bool qa5, .string qa6, .slice qA7 ql7.length qc7, .int .i64 qa8, .bool qa9, .bool qa10, .string qa11, .bool qa12, .slice qA13 ql13.length qc13, .bool qa14, .int .i64 qa15, .bool qa16, .string qa17, .slice qA18 ql18.length qc18, .int .i64 qa19, .bool qa20, .int .i64 qa21, .slice qA22 ql22.length qc22, .slice qA23 ql23.length qc23, .slice qA24 ql24.length qc24]] w fun e w' => e = .returned (.bool R) ∧ Below w.heap.size w w' := by
  have hl := sum_lists hs
  obtain ⟨kA, rA, hA, xA⟩ := asks_eq l22 ql22 hl.1
  obtain ⟨kI, rI, hI, xI⟩ := ints_eq l23 ql23 hl.2.1
  obtain ⟨kT, rT, hT, xT⟩ := texts_eq l24 ql24 hl.2.2
  obtain ⟨rW, hW, xW⟩ := msg_eq a6 l7 a8 a9 qa6 ql7 qa8 qa9
  obtain ⟨rM, hM, xM⟩ := msg_eq a17 l18 a19 a20 qa17 ql18 qa19 qa20
  refine Same_calls a0 a1 a2 a3 a4 a5 a6 A7 c7 l7 a8 a9 a10 a11 a12 A13 c13 l13 a14 a15 a16 a17 A18 c18 l18 a19 a20 a21 A22 c22 l22 A23 c23 l23 A24 c24 l24 qa0 qa1 qa2 qa3 qa4 qa5 qa6 qA7 qc7 ql7 qa8 qa9 qa10 qa11 qa12 qA13 qc13 ql13 qa14 qa15 qa16 qa17 qA18 qc18 ql18 qa19 qa20 qa21 qA22 qc22 ql22 qA23 qc23 ql23 qA24 qc24 ql24 kA kI kT rW rM rA rI rT R w hP hQ hW hM hA hI hT ?_
  rw [Bool.eq_iff_iff, hR]
  simp only [Bool.and_eq_true, Bool.not_eq_true', Bool.or_eq_false_iff, bne_eq_false_iff_eq, Bool.not_eq_false', beq_iff_eq, xA, xI, xT, xW, xM]
  constructor
  · intro h
    exact ⟨⟨h.s0, h.s1, h.s2, h.s3, (congrArg ByteArray.toList h.s4), h.s14, h.s15, h.s16, h.s21⟩, ⟨h.s5, h.s10, h.s12, (congrArg ByteArray.toList h.s11), (congrArg ByteArray.toList h.s13)⟩, ⟨h.s6, h.s8, h.s9, h.s7⟩, ⟨h.s17, h.s19, h.s20, h.s18⟩, h.s22, h.s23, h.s24⟩
  · rintro ⟨⟨s0, s1, s2, s3, s4, s14, s15, s16, s21⟩, ⟨s5, s10, s12, s11, s13⟩, ⟨s6, s8, s9, s7⟩, ⟨s17, s19, s20, s18⟩, s22, s23, s24⟩
    exact ⟨s0, s1, s2, s3, (toList_inj s4), s5, s6, s7, s8, s9, s10, (toList_inj s11), s12, (toList_inj s13), s14, s15, s16, s17, s18, s19, s20, s21, s22, s23, s24⟩
end Go.Proofs.YtipliohgnaoblaaDoor.Pk
