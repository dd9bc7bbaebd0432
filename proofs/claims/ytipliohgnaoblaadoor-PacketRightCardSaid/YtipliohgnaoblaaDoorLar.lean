/- Laws of PacketRight: what Same tells; the first byte, the length and the name of a packet that passes Check. -/
import Derived.Test.YtipliohgnaoblaaDoorLaw0
import Derived.Test.YtipliohgnaoblaaDoorEqs
namespace Go.Proofs.YtipliohgnaoblaaDoor.Pk
open Go.RowKit Go.Proofs.YtipliohgnaoblaaDoor.Giv Go.Proofs.YtipliohgnaoblaaDoorW.PrintWords Go.Proofs.YtipliohgnaoblaaDoorW.PrintLast Go.Proofs.YtipliohgnaoblaaDoorW.PrintMore Go.Proofs.YtipliohgnaoblaaDoor.MPacketStays
set_option linter.unusedVariables false
set_option linter.unusedSimpArgs false
set_option maxHeartbeats 2000000
set_option maxRecDepth 100000
theorem wrap_in {i : Int} (h0 : 0 ≤ i) (h1 : i ≤ 4611686018427387904) : wrap64 (i + 1) = i + 1 := by unfold wrap64; omega
theorem toList_inj {a b : ByteArray} (h : a.toList = b.toList) : a = b := by
 rw [Go.ByteArray.toList_eq, Go.ByteArray.toList_eq] at h
 cases a; cases b
 congr 1
 exact Array.toList_inj.1 h
theorem eq_loop {α : Type} (z : α) (l0 l1 : List α) (hn : l0.length = l1.length) (L : Nat → Int → Option Bool) (test : Int → Bool)
  (h1 : ∀ (m : Nat) (i : Int), 0 ≤ i → i < l0.length → L (m + 1) i = if test i = true then L m (i + 1) else some false)
  (h2 : ∀ (m : Nat) (i : Int), ¬ i < (l0.length : Int) → L (m + 1) i = some true)
  (ht : ∀ i : Int, 0 ≤ i → i < l0.length → (test i = true ↔ l0.getD i.toNat z = l1.getD i.toNat z)) :
  ∀ (j i : Nat), i + j = l0.length → ∃ r, L (j + 1) (i : Int) = some r ∧ (r = true ↔ l0.drop i = l1.drop i)
 | 0, i, h => by
  refine ⟨true, h2 0 i (by omega), ?_⟩
  rw [List.drop_eq_nil_of_le (by omega), List.drop_eq_nil_of_le (by omega)]
  simp
 | j + 1, i, h => by
  have hi0 : i < l0.length := by omega
  have hi1 : i < l1.length := by omega
  have e0 : l0.drop i = l0.getD i z :: l0.drop (i + 1) := by rw [List.drop_eq_getElem_cons hi0, List.getD_eq_getElem?_getD, List.getElem?_eq_getElem hi0]; rfl
  have e1 : l1.drop i = l1.getD i z :: l1.drop (i + 1) := by rw [List.drop_eq_getElem_cons hi1, List.getD_eq_getElem?_getD, List.getElem?_eq_getElem hi1]; rfl
  have hs := h1 (j + 1) i (by omega) (by omega)
  have htt := ht i (by omega) (by omega)
  rw [Int.toNat_natCast] at htt
  by_cases hx : test i = true
  ·rw [if_pos hx] at hs
   obtain ⟨r, hr, hr2⟩ := eq_loop z l0 l1 hn L test h1 h2 ht j (i + 1) (by omega)
   refine ⟨r, by rw [hs]; exact hr, ?_⟩
   rw [hr2, e0, e1, htt.1 hx]
   simp
  ·rw [if_neg hx] at hs
   refine ⟨false, hs, ?_⟩
   rw [e0, e1]
   constructor
   ·intro h; cases h
   ·intro h
    injection h with ha _
    exact absurd (htt.2 ha) hx
theorem asks_eq (l0 l1 : List S45) (hb : (l0.length : Int) ≤ 4611686018427387904) : ∃ k r, RPacketRight.api_Ask_30.f k l0 l1 = some r ∧ (r = true ↔ l0 = l1) := by
 by_cases hn : l0.length = l1.length
 ·obtain ⟨r, h1, h2⟩ := eq_loop z45 l0 l1 hn (fun m i => RPacketRight.api_Ask_30.l0 m l0 l1 (l0.length : Int) i) (fun i => !(!((((rd_T45 l0 i).f0).toList) == (((rd_T45 l1 i).f0).toList)) || (!(((rd_T45 l0 i).f1) == ((rd_T45 l1 i).f1)))))
   (fun m i hi0 hi1 => by
    show RPacketRight.api_Ask_30.l0 (m + 1) l0 l1 (l0.length : Int) i = _
    conv => lhs; unfold RPacketRight.api_Ask_30.l0
    rw [if_pos hi1, if_pos hi0, if_pos hi1, if_pos (by omega), wrap_in hi0 (by omega)]
    cases (!((((rd_T45 l0 i).f0).toList) == (((rd_T45 l1 i).f0).toList)) || (!(((rd_T45 l0 i).f1) == ((rd_T45 l1 i).f1)))) <;> simp)
   (fun m i hi => by
    show RPacketRight.api_Ask_30.l0 (m + 1) l0 l1 (l0.length : Int) i = _
    unfold RPacketRight.api_Ask_30.l0
    rw [if_neg hi])
   (fun i hi0 hi1 => by
    show (!(!(((l0.getD i.toNat z45).f0.toList) == ((l1.getD i.toNat z45).f0.toList)) || (!((l0.getD i.toNat z45).f1 == (l1.getD i.toNat z45).f1)))) = true ↔ _
    generalize l0.getD i.toNat z45 = a
    generalize l1.getD i.toNat z45 = b
    obtain ⟨a0, a1⟩ := a
    obtain ⟨b0, b1⟩ := b
    simp only [Bool.not_or, Bool.not_not, Bool.and_eq_true, beq_iff_eq, S45.mk.injEq]
    exact ⟨fun h => ⟨toList_inj h.1, h.2⟩, fun h => ⟨by rw [h.1], h.2⟩⟩)
   l0.length 0 (by omega)
  refine ⟨l0.length + 1, r, ?_, by simpa using h2⟩
  unfold RPacketRight.api_Ask_30.f
  rw [if_pos (by omega)]
  exact h1
 ·refine ⟨0, false, ?_, ?_⟩
  ·unfold RPacketRight.api_Ask_30.f
   rw [if_neg (by omega)]
  ·constructor
   ·intro h; cases h
   ·intro h; exact absurd (by rw [h]) hn
theorem ints_eq (l0 l1 : List Int) (hb : (l0.length : Int) ≤ 4611686018427387904) : ∃ k r, RPacketRight.slices_Equal_int_int.f k l0 l1 = some r ∧ (r = true ↔ l0 = l1) := by
 by_cases hn : l0.length = l1.length
 ·obtain ⟨r, h1, h2⟩ := eq_loop 0 l0 l1 hn (fun m i => RPacketRight.slices_Equal_int_int.l0 m l0 l1 (l0.length : Int) i) (fun i => decide ((rd l0 i) = (rd l1 i)))
   (fun m i hi0 hi1 => by
    show RPacketRight.slices_Equal_int_int.l0 (m + 1) l0 l1 (l0.length : Int) i = _
    conv => lhs; unfold RPacketRight.slices_Equal_int_int.l0
    rw [if_pos hi1, if_pos hi0, if_pos hi1, if_pos (by omega), wrap_in hi0 (by omega)]
    simp only [decide_eq_true_eq])
   (fun m i hi => by
    show RPacketRight.slices_Equal_int_int.l0 (m + 1) l0 l1 (l0.length : Int) i = _
    unfold RPacketRight.slices_Equal_int_int.l0
    rw [if_neg hi])
   (fun i hi0 hi1 => by rw [decide_eq_true_eq]; exact Iff.rfl)
   l0.length 0 (by omega)
  refine ⟨l0.length + 1, r, ?_, by simpa using h2⟩
  unfold RPacketRight.slices_Equal_int_int.f
  rw [if_pos (by omega)]
  exact h1
 ·refine ⟨0, false, ?_, ?_⟩
  ·unfold RPacketRight.slices_Equal_int_int.f
   rw [if_neg (by omega)]
  ·constructor
   ·intro h; cases h
   ·intro h; exact absurd (by rw [h]) hn
theorem texts_eq (l0 l1 : List ByteArray) (hb : (l0.length : Int) ≤ 4611686018427387904) : ∃ k r, RPacketRight.slices_Equal_string_string.f k l0 l1 = some r ∧ (r = true ↔ l0 = l1) := by
 by_cases hn : l0.length = l1.length
 ·obtain ⟨r, h1, h2⟩ := eq_loop ByteArray.empty l0 l1 hn (fun m i => RPacketRight.slices_Equal_string_string.l0 m l0 l1 (l0.length : Int) i) (fun i => decide ((rdOf ByteArray.empty l0 i).toList = (rdOf ByteArray.empty l1 i).toList))
   (fun m i hi0 hi1 => by
    show RPacketRight.slices_Equal_string_string.l0 (m + 1) l0 l1 (l0.length : Int) i = _
    conv => lhs; unfold RPacketRight.slices_Equal_string_string.l0
    rw [if_pos hi1, if_pos hi0, if_pos hi1, if_pos (by omega), wrap_in hi0 (by omega)]
    simp only [decide_eq_true_eq])
   (fun m i hi => by
    show RPacketRight.slices_Equal_string_string.l0 (m + 1) l0 l1 (l0.length : Int) i = _
    unfold RPacketRight.slices_Equal_string_string.l0
    rw [if_neg hi])
   (fun i hi0 hi1 => by rw [decide_eq_true_eq]; exact ⟨fun h => toList_inj h, fun h => congrArg ByteArray.toList h⟩)
   l0.length 0 (by omega)
  refine ⟨l0.length + 1, r, ?_, by simpa using h2⟩
  unfold RPacketRight.slices_Equal_string_string.f
  rw [if_pos (by omega)]
  exact h1
 ·refine ⟨0, false, ?_, ?_⟩
  ·unfold RPacketRight.slices_Equal_string_string.f
   rw [if_neg (by omega)]
  ·constructor
   ·intro h; cases h
   ·intro h; exact absurd (by rw [h]) hn
theorem msg_eq (t : ByteArray) (l : List Int) (q : Int) (r : Bool) (t' : ByteArray) (l' : List Int) (q' : Int) (r' : Bool) : ∃ x, packet_sameMessage.f t l q r t' l' q' r' = some x ∧ (x = true ↔ t = t' ∧ q = q' ∧ r = r' ∧ strOfNums l = strOfNums l') := by
 refine ⟨(t.toList == t'.toList && (q == q' && r == r')) && (strOfNums l).toList == (strOfNums l').toList, ?_, ?_⟩
 ·unfold packet_sameMessage.f packet_plainly.f bytes_Equal.f
  simp only [Option.bind_some]
  cases (t.toList == t'.toList && (q == q' && r == r')) <;> simp
 ·simp only [Bool.and_eq_true, beq_iff_eq]
  exact ⟨fun h => ⟨toList_inj h.1.1, h.1.2.1, h.1.2.2, toList_inj h.2⟩, fun h => ⟨⟨by rw [h.1], h.2.1, h.2.2.1⟩, by rw [h.2.2.2]⟩⟩
/-- alike in all that they hold -/
structure Alike (p q : P) : Prop where
 s0 : p.a0 = q.a0
 s1 : p.a1 = q.a1
 s2 : p.a2 = q.a2
 s3 : p.a3 = q.a3
 s4 : p.a4 = q.a4
 s5 : p.a5 = q.a5
 s6 : p.a6 = q.a6
 s7 : strOfNums p.l7 = strOfNums q.l7
 s8 : p.a8 = q.a8
 s9 : p.a9 = q.a9
 s10 : p.a10 = q.a10
 s11 : p.a11 = q.a11
 s12 : p.a12 = q.a12
 s13 : strOfNums p.l13 = strOfNums q.l13
 s14 : p.a14 = q.a14
 s15 : p.a15 = q.a15
 s16 : p.a16 = q.a16
 s17 : p.a17 = q.a17
 s18 : strOfNums p.l18 = strOfNums q.l18
 s19 : p.a19 = q.a19
 s20 : p.a20 = q.a20
 s21 : p.a21 = q.a21
 s22 : p.l22 = q.l22
 s23 : p.l23 = q.l23
 s24 : p.l24 = q.l24
theorem Alike.refl (p : P) : Alike p p := ⟨rfl, rfl, rfl, rfl, rfl, rfl, rfl, rfl, rfl, rfl, rfl, rfl, rfl, rfl, rfl, rfl, rfl, rfl, rfl, rfl, rfl, rfl, rfl, rfl, rfl⟩
theorem Alike.symm {p q : P} (h : Alike p q) : Alike q p := ⟨h.s0.symm, h.s1.symm, h.s2.symm, h.s3.symm, h.s4.symm, h.s5.symm, h.s6.symm, h.s7.symm, h.s8.symm, h.s9.symm, h.s10.symm, h.s11.symm, h.s12.symm, h.s13.symm, h.s14.symm, h.s15.symm, h.s16.symm, h.s17.symm, h.s18.symm, h.s19.symm, h.s20.symm, h.s21.symm, h.s22.symm, h.s23.symm, h.s24.symm⟩
theorem nums_len {a b : List Int} (h : strOfNums a = strOfNums b) : a.length = b.length := by
 have := congrArg ByteArray.size h
 rwa [strOfNums_size, strOfNums_size] at this
theorem Alike.check {p q : P} (h : Alike p q) : p.check = q.check ∧ p.len = q.len := by
 obtain ⟨a0, a1, a2, a3, a4, a5, a6, l7, a8, a9, a10, a11, a12, l13, a14, a15, a16, a17, l18, a19, a20, a21, l22, l23, l24⟩ := p
 obtain ⟨za0, za1, za2, za3, za4, za5, za6, yl7, za8, za9, za10, za11, za12, yl13, za14, za15, za16, za17, yl18, za19, za20, za21, zl22, zl23, zl24⟩ := q
 obtain ⟨s0, s1, s2, s3, s4, s5, s6, s7, s8, s9, s10, s11, s12, s13, s14, s15, s16, s17, s18, s19, s20, s21, s22, s23, s24⟩ := h
 simp only at s0 s1 s2 s3 s4 s5 s6 s7 s8 s9 s10 s11 s12 s13 s14 s15 s16 s17 s18 s19 s20 s21 s22 s23 s24
 subst s0 s1 s2 s3 s4 s5 s6 s8 s9 s10 s11 s12 s14 s15 s16 s17 s19 s20 s21 s22 s23 s24
 have n7 := nums_len s7
 have n13 := nums_len s13
 have n18 := nums_len s18
 have hl : (⟨a0, a1, a2, a3, a4, a5, a6, l7, a8, a9, a10, a11, a12, l13, a14, a15, a16, a17, l18, a19, a20, a21, l22, l23, l24⟩ : P).len = (⟨a0, a1, a2, a3, a4, a5, a6, yl7, a8, a9, a10, a11, a12, yl13, a14, a15, a16, a17, yl18, a19, a20, a21, l22, l23, l24⟩ : P).len := by
  simp only [P.len, P.h, n7, n13, n18]
  rfl
 refine ⟨?_, hl⟩
 unfold P.check
 rw [hl]
 simp only [P.foreign, foreignV, smV, qualV, P.h, n7, n13, n18, s7, s18]
 rfl
theorem Alike.flags {p q : P} (h : Alike p q) : p.flags = q.flags := by
 unfold P.flags
 rw [h.check.1, h.s0, h.s19, h.s16, h.s20]
theorem Alike.length {p q : P} (h : Alike p q) : p.length = q.length := by
 unfold P.length
 rw [h.check.1, h.check.2]
theorem len_ok {p : P} (hc : p.check = 0) : 0 ≤ p.length ∧ p.length ≤ 268435455 := by
 obtain ⟨_, e1, e2, e3, e4, e5, e6, e7, e8, e9⟩ := (check0 p).1 hc
 have hn := len_nn p
 simp only [Bool.or_eq_false_iff, decide_eq_false_iff_not] at e7
 unfold P.length
 rw [if_pos hc]
 omega
theorem may_ok {p : P} (hc : p.check = 0) : Kin.mayV p.a0 p.flags = true := by
 obtain ⟨⟨k1, k2⟩, e1, e2, e3, e4, e5, e6, e7, e8, e9⟩ := (check0 p).1 hc
 unfold P.flags
 rw [if_pos hc]
 unfold Kin.mayV
 rw [if_neg (by omega), if_neg (by omega)]
 by_cases h3 : p.a0 = 3
 ·rw [if_pos h3, if_pos h3]
  unfold qualV at e5
  simp only [Bool.not_eq_false', Bool.and_eq_true] at e5
  have hq := e5.2.1
  unfold isQ at hq
  simp only [Bool.and_eq_true, decide_eq_true_eq] at hq
  obtain ⟨h0, h2⟩ := hq
  simp only [Bool.or_eq_false_iff, Bool.and_eq_false_iff, beq_eq_false_iff_ne, ne_eq] at e9
  have hd := e9.2.1
  have h19 : p.a19 = 0 ∨ p.a19 = 1 ∨ p.a19 = 2 := by omega
  generalize p.a19 = x at *
  generalize p.a16 = d at *
  generalize p.a20 = t at *
  rcases h19 with rfl | rfl | rfl <;> cases d <;> cases t <;> first | decide | (exfalso; simp at hd)
 ·rw [if_neg h3, if_neg h3]
  simp
theorem name_ok {p : P} (hc : p.check = 0) : ((Kin.nameV p.a0).toList == []) = false := by
 obtain ⟨⟨k1, k2⟩, _⟩ := (check0 p).1 hc
 generalize p.a0 = k at *
 have : k = 1 ∨ k = 2 ∨ k = 3 ∨ k = 4 ∨ k = 5 ∨ k = 6 ∨ k = 7 ∨ k = 8 ∨ k = 9 ∨ k = 10 ∨ k = 11 ∨ k = 12 ∨ k = 13 ∨ k = 14 := by omega
 rw [Go.ByteArray.toList_eq]
 rcases this with rfl | rfl | rfl | rfl | rfl | rfl | rfl | rfl | rfl | rfl | rfl | rfl | rfl | rfl <;> decide
end Go.Proofs.YtipliohgnaoblaaDoor.Pk
