/- words picked for this claim. -/
import Derived.Test.YtndhkgfeknkfdaaGreatDoorMPacketChecksx
import Derived.Test.YtndhkgfeknkfdaaGreatDoorProg
import Derived.Laws.RangeAny
import Derived.Below
import Derived.Deep.Draws
import Derived.Deep.AppendLies
import Derived.Maps.AppendAt
import Derived.OwnWalk
import Derived.Laws.BytesArg
import Derived.Laws.MakeOwn
import Derived.Laws.OwnMore
import Derived.Deep.OwnRows
import Derived.Tactics
import Derived.Lib.ConvBytes
import Derived.Laws.Slices
import Derived.WalkKit
import Derived.KernelRfl
import Derived.RowKit3
import Derived.Deep.LoopGhost
import Derived.Deep.QuietTactic
import Derived.BigQuiet
import Derived.WideLaws
import Derived.Deep.DeepCutAuto
import Derived.Deep.CutBlock
import Derived.Deep.RegionHeld3
import Derived.Laws.Rows
import Derived.Lib.AppendStr
import Derived.ArgAppend
import Derived.Laws.IdiomCopy
import Derived.OrdersHeld
import Derived.Laws.BitsLemmas
import Derived.RowKit
import Derived.Lib.OthersKept
import Derived.Test.YtndhkgfeknkfdaaGreatDoorWWords
import Derived.Test.YtndhkgfeknkfdaaGreatDoorWLast
import Derived.Test.YtndhkgfeknkfdaaGreatDoorWTab
import Derived.Laws.StructEq
import Derived.Test.YtndhkgfeknkfdaaGreatDoorWRepsOne
import Derived.Test.YtndhkgfeknkfdaaGreatDoorWMore
import Derived.Test.YtndhkgfeknkfdaaGreatDoorShelf
import Derived.Laws.Runes
import Derived.WalkMore
import Derived.SliceStrings
import Derived.ProofKit
import Derived.Lib.Strings
import Derived.Test.YtndhkgfeknkfdaaGreatDoorEqs
import Derived.IntWalk
namespace Go.Proofs.YtndhkgfeknkfdaaGreatDoor.Pk
open Go.RowKit Go.Proofs.YtndhkgfeknkfdaaGreatDoorW.PrintWords Go.Proofs.YtndhkgfeknkfdaaGreatDoorW.PrintLast Go.Proofs.YtndhkgfeknkfdaaGreatDoorW.PrintMore Go.Proofs.YtndhkgfeknkfdaaGreatDoor.MPacketChecks
set_option linter.unusedVariables false
set_option linter.unusedSimpArgs false
set_option maxHeartbeats 8000000
set_option maxRecDepth 100000
/-- all but one block are as they were -/
def Only (w w' : World) (g : Nat) : Prop := (w'.os = w.os ∧ w'.tape = w.tape ∧ w'.output = w.output) ∧ KeepBut w w' g none
theorem Only.below {w0 w w' : World} {g : Nat} (h : Below w0.heap.size w0 w) (k : Only w w' g) (hg : w0.heap.size ≤ g) : Below w0.heap.size w0 w' :=
  ⟨k.1.1.trans h.os, k.1.2.1.trans h.tape, k.1.2.2.trans h.output, Nat.le_trans h.size k.2.1, fun i hi => (k.2.2 i (Nat.lt_of_lt_of_le hi h.size) (by omega) (by simp)).trans (h.block i hi)⟩
/-- the bytes of filters that are asked for; of filters -/
def sumA (l : List S82) : Int := l.foldr (fun x s => 3 + (x.f0.size : Int) + s) 0
def sumT (l : List ByteArray) : Int := l.foldr (fun x s => 2 + (x.size : Int) + s) 0
theorem sumA_len (l : List S82) : (l.length : Int) ≤ sumA l := by induction l with
  | nil => simp [sumA]
  | cons x a ih => simp only [sumA, List.foldr_cons, List.length_cons] at *; omega
theorem sumT_len (l : List ByteArray) : (l.length : Int) ≤ sumT l := by induction l with
  | nil => simp [sumT]
  | cons x a ih => simp only [sumT, List.foldr_cons, List.length_cons] at *; omega
end Go.Proofs.YtndhkgfeknkfdaaGreatDoor.Pk
namespace Go.Proofs.YtndhkgfeknkfdaaGreatDoor.Pk
open Go.RowKit Go.Proofs.YtndhkgfeknkfdaaGreatDoorW.PrintWords Go.Proofs.YtndhkgfeknkfdaaGreatDoorW.PrintLast Go.Proofs.YtndhkgfeknkfdaaGreatDoorW.PrintMore Go.Proofs.YtndhkgfeknkfdaaGreatDoor.MPacketChecks
set_option linter.unusedVariables false
set_option linter.unusedSimpArgs false
set_option maxHeartbeats 8000000
set_option maxRecDepth 100000
theorem mem_at {α : Type} {P : α → Prop} (l : List α) (z : α) (x : Int) (h0 : 0 ≤ x) (h1 : x < l.length) (h : ∀ y ∈ l, P y) : P (l.getD x.toNat z) := by
  have hl : x.toNat < l.length := by omega
  rw [List.getD_eq_getElem?_getD, List.getElem?_eq_getElem hl]; exact h _ (List.getElem_mem hl)

end Go.Proofs.YtndhkgfeknkfdaaGreatDoor.Pk
namespace Go.Proofs.YtndhkgfeknkfdaaGreatDoor.Pk
open Go.RowKit Go.Proofs.YtndhkgfeknkfdaaGreatDoorW.PrintWords Go.Proofs.YtndhkgfeknkfdaaGreatDoorW.PrintLast Go.Proofs.YtndhkgfeknkfdaaGreatDoorW.PrintMore Go.Proofs.YtndhkgfeknkfdaaGreatDoor.MPacketChecks
set_option linter.unusedVariables false
set_option linter.unusedSimpArgs false
set_option maxHeartbeats 8000000
set_option maxRecDepth 100000
/-- a packet's data -/
structure P where
  a0 : Int
  a1 : Int
  a2 : Bool
  a3 : Int
  a4 : ByteArray
  a5 : Bool
  a6 : ByteArray
  l7 : List Int
  a8 : Int
  a9 : Bool
  a10 : Bool
  a11 : ByteArray
  a12 : Bool
  l13 : List Int
  a14 : Bool
  a15 : Int
  a16 : Bool
  a17 : ByteArray
  l18 : List Int
  a19 : Int
  a20 : Bool
  a21 : Int
  l22 : List S82
  l23 : List Int
  l24 : List ByteArray
/-- its slices read so -/
structure Rd (w : World) (A7 : Option Addr) (c7 : Nat) (l7 : List Int) (A13 : Option Addr) (c13 : Nat) (l13 : List Int) (A18 : Option Addr) (c18 : Nat) (l18 : List Int) (A22 : Option Addr) (c22 : Nat) (l22 : List S82) (A23 : Option Addr) (c23 : Nat) (l23 : List Int) (A24 : Option Addr) (c24 : Nat) (l24 : List ByteArray) : Prop where
  r7 : Kd.C (Kd.int .u8) w A7 l7.length l7
  k7 : l7.length ≤ c7
  r13 : Kd.C (Kd.int .u8) w A13 l13.length l13
  k13 : l13.length ≤ c13
  r18 : Kd.C (Kd.int .u8) w A18 l18.length l18
  k18 : l18.length ≤ c18
  r22 : Kd.C k82 w A22 l22.length l22
  k22 : l22.length ≤ c22
  r23 : Kd.C (Kd.int .i64) w A23 l23.length l23
  k23 : l23.length ≤ c23
  r24 : Kd.C Kd.string w A24 l24.length l24
  k24 : l24.length ≤ c24
theorem Rd.below {w w' : World} {A7 : Option Addr} {c7 : Nat} {l7 : List Int} {A13 : Option Addr} {c13 : Nat} {l13 : List Int} {A18 : Option Addr} {c18 : Nat} {l18 : List Int} {A22 : Option Addr} {c22 : Nat} {l22 : List S82} {A23 : Option Addr} {c23 : Nat} {l23 : List Int} {A24 : Option Addr} {c24 : Nat} {l24 : List ByteArray} (h : Rd w A7 c7 l7 A13 c13 l13 A18 c18 l18 A22 c22 l22 A23 c23 l23 A24 c24 l24) (b : Below w.heap.size w w') : Rd w' A7 c7 l7 A13 c13 l13 A18 c18 l18 A22 c22 l22 A23 c23 l23 A24 c24 l24 :=
  ⟨Kd.C_below h.r7 b, h.k7, Kd.C_below h.r13 b, h.k13, Kd.C_below h.r18 b, h.k18, Kd.C_below h.r22 b, h.k22, Kd.C_below h.r23 b, h.k23, Kd.C_below h.r24 b, h.k24⟩
/-- the bytes and things of its lists -/
def P.sum (p : P) : Int := (p.a4.size : Int) + p.a6.size + p.l7.length + p.a11.size + p.l13.length + p.a17.size + p.l18.length + p.l23.length + sumA p.l22 + sumT p.l24
theorem drop_at {α : Type} (l : List α) (z : α) (x : Int) (h0 : 0 ≤ x) (h1 : x < l.length) : l.drop x.toNat = l.getD x.toNat z :: l.drop (x + 1).toNat := by
  have e : (x + 1).toNat = x.toNat + 1 := by omega
  have hl : x.toNat < l.length := by omega
  rw [e, List.drop_eq_getElem_cons hl, List.getD_eq_getElem?_getD, List.getElem?_eq_getElem hl]; rfl
theorem wrap_up {i : Int} {n : Nat} (h0 : 0 ≤ i) (h : i < (n : Int)) (hn : (n : Int) ≤ 1125899906842624) : wrap64 (i + 1) = i + 1 := by unfold wrap64; omega
end Go.Proofs.YtndhkgfeknkfdaaGreatDoor.Pk
namespace Go.Proofs.YtndhkgfeknkfdaaGreatDoor.Pk
open Go.RowKit Go.Proofs.YtndhkgfeknkfdaaGreatDoorW.PrintWords Go.Proofs.YtndhkgfeknkfdaaGreatDoorW.PrintLast Go.Proofs.YtndhkgfeknkfdaaGreatDoorW.PrintMore Go.Proofs.YtndhkgfeknkfdaaGreatDoor.MPacketChecks
set_option linter.unusedVariables false
set_option linter.unusedSimpArgs false
set_option maxHeartbeats 2000000
set_option maxRecDepth 100000
theorem wrap_in {i : Int} (h0 : 0 ≤ i) (h1 : i ≤ 4611686018427387904) : wrap64 (i + 1) = i + 1 := by unfold wrap64; omega
theorem toList_inj {a b : ByteArray} (h : a.toList = b.toList) : a = b := by
 rw [Go.ByteArray.toList_eq, Go.ByteArray.toList_eq] at h
 cases a; cases b
 congr 1
 exact Array.toList_inj.1 h
theorem eq_loop {α : Type} (z : α) (l0 l1 : List α) (hn : l0.length = l1.length) (L : Nat → Int → Option Bool) (test : Int → Bool)
  (h1 : ∀ (m : Nat) (i : Int), 0 ≤ i → i < l0.length → L (m + 1) i = if test i = true then L m (i + 1) else some false)
  (h2 : ∀ (m : Nat) (i : Int), ¬ i < (l0.length : Int) → L (m + 1) i = some true)
  (ht : ∀ i : Int, 0 ≤ i → i < l0.length → (test i = true ↔ l0.getD i.toNat z = l1.getD i.toNat z)) :
  ∀ (j i : Nat), i + j = l0.length → ∃ r, L (j + 1) (i : Int) = some r ∧ (r = true ↔ l0.drop i = l1.drop i)
 | 0, i, h => by
  refine ⟨true, h2 0 i (by omega), ?_⟩
  rw [List.drop_eq_nil_of_le (by omega), List.drop_eq_nil_of_le (by omega)]
  simp
 | j + 1, i, h => by
  have hi0 : i < l0.length := by omega
  have hi1 : i < l1.length := by omega
  have e0 : l0.drop i = l0.getD i z :: l0.drop (i + 1) := by rw [List.drop_eq_getElem_cons hi0, List.getD_eq_getElem?_getD, List.getElem?_eq_getElem hi0]; rfl
  have e1 : l1.drop i = l1.getD i z :: l1.drop (i + 1) := by rw [List.drop_eq_getElem_cons hi1, List.getD_eq_getElem?_getD, List.getElem?_eq_getElem hi1]; rfl
  have hs := h1 (j + 1) i (by omega) (by omega)
  have htt := ht i (by omega) (by omega)
  rw [Int.toNat_natCast] at htt
  by_cases hx : test i = true
  ·rw [if_pos hx] at hs
   obtain ⟨r, hr, hr2⟩ := eq_loop z l0 l1 hn L test h1 h2 ht j (i + 1) (by omega)
   refine ⟨r, by rw [hs]; exact hr, ?_⟩
   rw [hr2, e0, e1, htt.1 hx]
   simp
  ·rw [if_neg hx] at hs
   refine ⟨false, hs, ?_⟩
   rw [e0, e1]
   constructor
   ·intro h; cases h
   ·intro h
    injection h with ha _
    exact absurd (htt.2 ha) hx
theorem asks_eq (l0 l1 : List S82) (hb : (l0.length : Int) ≤ 4611686018427387904) : ∃ k r, RPacketRight.api_Ask_53.f k l0 l1 = some r ∧ (r = true ↔ l0 = l1) := by
 by_cases hn : l0.length = l1.length
 ·obtain ⟨r, h1, h2⟩ := eq_loop z82 l0 l1 hn (fun m i => RPacketRight.api_Ask_53.l0 m l0 l1 (l0.length : Int) i) (fun i => !(!((((rd_T82 l0 i).f0).toList) == (((rd_T82 l1 i).f0).toList)) || (!(((rd_T82 l0 i).f1) == ((rd_T82 l1 i).f1)))))
   (fun m i hi0 hi1 => by
    show RPacketRight.api_Ask_53.l0 (m + 1) l0 l1 (l0.length : Int) i = _
    conv => lhs; unfold RPacketRight.api_Ask_53.l0
    rw [if_pos hi1, if_pos hi0, if_pos hi1, if_pos (by omega), wrap_in hi0 (by omega)]
    cases (!((((rd_T82 l0 i).f0).toList) == (((rd_T82 l1 i).f0).toList)) || (!(((rd_T82 l0 i).f1) == ((rd_T82 l1 i).f1)))) <;> simp)
   (fun m i hi => by
    show RPacketRight.api_Ask_53.l0 (m + 1) l0 l1 (l0.length : Int) i = _
    unfold RPacketRight.api_Ask_53.l0
    rw [if_neg hi])
   (fun i hi0 hi1 => by
    show (!(!(((l0.getD i.toNat z82).f0.toList) == ((l1.getD i.toNat z82).f0.toList)) || (!((l0.getD i.toNat z82).f1 == (l1.getD i.toNat z82).f1)))) = true ↔ _
    generalize l0.getD i.toNat z82 = a
    generalize l1.getD i.toNat z82 = b
    obtain ⟨a0, a1⟩ := a
    obtain ⟨b0, b1⟩ := b
    simp only [Bool.not_or, Bool.not_not, Bool.and_eq_true, beq_iff_eq, S82.mk.injEq]
    exact ⟨fun h => ⟨toList_inj h.1, h.2⟩, fun h => ⟨by rw [h.1], h.2⟩⟩)
   l0.length 0 (by omega)
  refine ⟨l0.length + 1, r, ?_, by simpa using h2⟩
  unfold RPacketRight.api_Ask_53.f
  rw [if_pos (by omega)]
  exact h1
 ·refine ⟨0, false, ?_, ?_⟩
  ·unfold RPacketRight.api_Ask_53.f
   rw [if_neg (by omega)]
  ·constructor
   ·intro h; cases h
   ·intro h; exact absurd (by rw [h]) hn
theorem ints_eq (l0 l1 : List Int) (hb : (l0.length : Int) ≤ 4611686018427387904) : ∃ k r, RPacketRight.slices_Equal_int_int.f k l0 l1 = some r ∧ (r = true ↔ l0 = l1) := by
 by_cases hn : l0.length = l1.length
 ·obtain ⟨r, h1, h2⟩ := eq_loop 0 l0 l1 hn (fun m i => RPacketRight.slices_Equal_int_int.l0 m l0 l1 (l0.length : Int) i) (fun i => decide ((rd l0 i) = (rd l1 i)))
   (fun m i hi0 hi1 => by
    show RPacketRight.slices_Equal_int_int.l0 (m + 1) l0 l1 (l0.length : Int) i = _
    conv => lhs; unfold RPacketRight.slices_Equal_int_int.l0
    rw [if_pos hi1, if_pos hi0, if_pos hi1, if_pos (by omega), wrap_in hi0 (by omega)]
    simp only [decide_eq_true_eq])
   (fun m i hi => by
    show RPacketRight.slices_Equal_int_int.l0 (m + 1) l0 l1 (l0.length : Int) i = _
    unfold RPacketRight.slices_Equal_int_int.l0
    rw [if_neg hi])
   (fun i hi0 hi1 => by rw [decide_eq_true_eq]; exact Iff.rfl)
   l0.length 0 (by omega)
  refine ⟨l0.length + 1, r, ?_, by simpa using h2⟩
  unfold RPacketRight.slices_Equal_int_int.f
  rw [if_pos (by omega)]
  exact h1
 ·refine ⟨0, false, ?_, ?_⟩
  ·unfold RPacketRight.slices_Equal_int_int.f
   rw [if_neg (by omega)]
  ·constructor
   ·intro h; cases h
   ·intro h; exact absurd (by rw [h]) hn
theorem texts_eq (l0 l1 : List ByteArray) (hb : (l0.length : Int) ≤ 4611686018427387904) : ∃ k r, RPacketRight.slices_Equal_string_string.f k l0 l1 = some r ∧ (r = true ↔ l0 = l1) := by
 by_cases hn : l0.length = l1.length
 ·obtain ⟨r, h1, h2⟩ := eq_loop ByteArray.empty l0 l1 hn (fun m i => RPacketRight.slices_Equal_string_string.l0 m l0 l1 (l0.length : Int) i) (fun i => decide ((rdOf ByteArray.empty l0 i).toList = (rdOf ByteArray.empty l1 i).toList))
   (fun m i hi0 hi1 => by
    show RPacketRight.slices_Equal_string_string.l0 (m + 1) l0 l1 (l0.length : Int) i = _
    conv => lhs; unfold RPacketRight.slices_Equal_string_string.l0
    rw [if_pos hi1, if_pos hi0, if_pos hi1, if_pos (by omega), wrap_in hi0 (by omega)]
    simp only [decide_eq_true_eq])
   (fun m i hi => by
    show RPacketRight.slices_Equal_string_string.l0 (m + 1) l0 l1 (l0.length : Int) i = _
    unfold RPacketRight.slices_Equal_string_string.l0
    rw [if_neg hi])
   (fun i hi0 hi1 => by rw [decide_eq_true_eq]; exact ⟨fun h => toList_inj h, fun h => congrArg ByteArray.toList h⟩)
   l0.length 0 (by omega)
  refine ⟨l0.length + 1, r, ?_, by simpa using h2⟩
  unfold RPacketRight.slices_Equal_string_string.f
  rw [if_pos (by omega)]
  exact h1
 ·refine ⟨0, false, ?_, ?_⟩
  ·unfold RPacketRight.slices_Equal_string_string.f
   rw [if_neg (by omega)]
  ·constructor
   ·intro h; cases h
   ·intro h; exact absurd (by rw [h]) hn
theorem msg_eq (t : ByteArray) (l : List Int) (q : Int) (r : Bool) (t' : ByteArray) (l' : List Int) (q' : Int) (r' : Bool) : ∃ x, packet_sameMessage.f t l q r t' l' q' r' = some x ∧ (x = true ↔ t = t' ∧ q = q' ∧ r = r' ∧ strOfNums l = strOfNums l') := by
 refine ⟨(t.toList == t'.toList && (q == q' && r == r')) && (strOfNums l).toList == (strOfNums l').toList, ?_, ?_⟩
 ·unfold packet_sameMessage.f packet_plainly.f bytes_Equal.f
  simp only [Option.bind_some]
  cases (t.toList == t'.toList && (q == q' && r == r')) <;> simp
 ·simp only [Bool.and_eq_true, beq_iff_eq]
  exact ⟨fun h => ⟨toList_inj h.1.1, h.1.2.1, h.1.2.2, toList_inj h.2⟩, fun h => ⟨⟨by rw [h.1], h.2.1, h.2.2.1⟩, by rw [h.2.2.2]⟩⟩
/-- alike in all that they hold -/
structure Alike (p q : P) : Prop where
 s0 : p.a0 = q.a0
 s1 : p.a1 = q.a1
 s2 : p.a2 = q.a2
 s3 : p.a3 = q.a3
 s4 : p.a4 = q.a4
 s5 : p.a5 = q.a5
 s6 : p.a6 = q.a6
 s7 : strOfNums p.l7 = strOfNums q.l7
 s8 : p.a8 = q.a8
 s9 : p.a9 = q.a9
 s10 : p.a10 = q.a10
 s11 : p.a11 = q.a11
 s12 : p.a12 = q.a12
 s13 : strOfNums p.l13 = strOfNums q.l13
 s14 : p.a14 = q.a14
 s15 : p.a15 = q.a15
 s16 : p.a16 = q.a16
 s17 : p.a17 = q.a17
 s18 : strOfNums p.l18 = strOfNums q.l18
 s19 : p.a19 = q.a19
 s20 : p.a20 = q.a20
 s21 : p.a21 = q.a21
 s22 : p.l22 = q.l22
 s23 : p.l23 = q.l23
 s24 : p.l24 = q.l24
theorem Alike.refl (p : P) : Alike p p := ⟨rfl, rfl, rfl, rfl, rfl, rfl, rfl, rfl, rfl, rfl, rfl, rfl, rfl, rfl, rfl, rfl, rfl, rfl, rfl, rfl, rfl, rfl, rfl, rfl, rfl⟩
theorem Alike.symm {p q : P} (h : Alike p q) : Alike q p := ⟨h.s0.symm, h.s1.symm, h.s2.symm, h.s3.symm, h.s4.symm, h.s5.symm, h.s6.symm, h.s7.symm, h.s8.symm, h.s9.symm, h.s10.symm, h.s11.symm, h.s12.symm, h.s13.symm, h.s14.symm, h.s15.symm, h.s16.symm, h.s17.symm, h.s18.symm, h.s19.symm, h.s20.symm, h.s21.symm, h.s22.symm, h.s23.symm, h.s24.symm⟩
end Go.Proofs.YtndhkgfeknkfdaaGreatDoor.Pk
