/- A packet as data; what Check, Length and Flags tell of it. -/
import Derived.Test.YtndhkgfeknkfdaaGreatDoorChk
import Derived.Test.YtndhkgfeknkfdaaGreatDoorNum
namespace Go.Proofs.YtndhkgfeknkfdaaGreatDoor.Pk
open Go.RowKit Go.Proofs.YtndhkgfeknkfdaaGreatDoor.Giv Go.Proofs.YtndhkgfeknkfdaaGreatDoorW.PrintWords Go.Proofs.YtndhkgfeknkfdaaGreatDoorW.PrintLast Go.Proofs.YtndhkgfeknkfdaaGreatDoorW.PrintMore Go.Proofs.YtndhkgfeknkfdaaGreatDoor.MPacketChecks
set_option linter.unusedVariables false
set_option linter.unusedSimpArgs false
set_option maxHeartbeats 8000000
set_option maxRecDepth 100000
/-- a packet's data -/
structure P where
  a0 : Int
  a1 : Int
  a2 : Bool
  a3 : Int
  a4 : ByteArray
  a5 : Bool
  a6 : ByteArray
  l7 : List Int
  a8 : Int
  a9 : Bool
  a10 : Bool
  a11 : ByteArray
  a12 : Bool
  l13 : List Int
  a14 : Bool
  a15 : Int
  a16 : Bool
  a17 : ByteArray
  l18 : List Int
  a19 : Int
  a20 : Bool
  a21 : Int
  l22 : List S82
  l23 : List Int
  l24 : List ByteArray
/-- its slices read so -/
structure Rd (w : World) (A7 : Option Addr) (c7 : Nat) (l7 : List Int) (A13 : Option Addr) (c13 : Nat) (l13 : List Int) (A18 : Option Addr) (c18 : Nat) (l18 : List Int) (A22 : Option Addr) (c22 : Nat) (l22 : List S82) (A23 : Option Addr) (c23 : Nat) (l23 : List Int) (A24 : Option Addr) (c24 : Nat) (l24 : List ByteArray) : Prop where
  r7 : Kd.C (Kd.int .u8) w A7 l7.length l7
  k7 : l7.length ≤ c7
  r13 : Kd.C (Kd.int .u8) w A13 l13.length l13
  k13 : l13.length ≤ c13
  r18 : Kd.C (Kd.int .u8) w A18 l18.length l18
  k18 : l18.length ≤ c18
  r22 : Kd.C k82 w A22 l22.length l22
  k22 : l22.length ≤ c22
  r23 : Kd.C (Kd.int .i64) w A23 l23.length l23
  k23 : l23.length ≤ c23
  r24 : Kd.C Kd.string w A24 l24.length l24
  k24 : l24.length ≤ c24
theorem Rd.below {w w' : World} {A7 : Option Addr} {c7 : Nat} {l7 : List Int} {A13 : Option Addr} {c13 : Nat} {l13 : List Int} {A18 : Option Addr} {c18 : Nat} {l18 : List Int} {A22 : Option Addr} {c22 : Nat} {l22 : List S82} {A23 : Option Addr} {c23 : Nat} {l23 : List Int} {A24 : Option Addr} {c24 : Nat} {l24 : List ByteArray} (h : Rd w A7 c7 l7 A13 c13 l13 A18 c18 l18 A22 c22 l22 A23 c23 l23 A24 c24 l24) (b : Below w.heap.size w w') : Rd w' A7 c7 l7 A13 c13 l13 A18 c18 l18 A22 c22 l22 A23 c23 l23 A24 c24 l24 :=
  ⟨Kd.C_below h.r7 b, h.k7, Kd.C_below h.r13 b, h.k13, Kd.C_below h.r18 b, h.k18, Kd.C_below h.r22 b, h.k22, Kd.C_below h.r23 b, h.k23, Kd.C_below h.r24 b, h.k24⟩
/-- the bytes and things of its lists -/
def P.sum (p : P) : Int := (p.a4.size : Int) + p.a6.size + p.l7.length + p.a11.size + p.l13.length + p.a17.size + p.l18.length + p.l23.length + sumA p.l22 + sumT p.l24
def txtV (s : ByteArray) : Bool := (wcode s).2 == 0
def topV (s : ByteArray) : Int := if txt s = 0 then (if Cr.wildIn (Cr.bl s) = true then 52 else 0) else txt s
def isQ (q : Int) : Bool := decide (0 ≤ q) && decide (q ≤ 2)
def codeV (c : Int) : Bool := isQ c || c == 128
def qualV (p : P) : Bool := isQ p.a8 && (isQ p.a19 && (p.l22.all (fun a => isQ a.f1) && p.l23.all codeV))
def smV (t : ByteArray) (l : List Int) (q : Int) (r : Bool) : Bool := t.toList == [] && (q == 0 && r == false) && (strOfNums l).toList == (strOfNums []).toList
def P.h (p : P) : Int := hasL.getD p.a0.toNat 0
def P.len (p : P) : Int := lenV (decide (0 < bits BinOp.and IntKind.i64 p.h 1)) (decide (0 < bits BinOp.and IntKind.i64 p.h 2)) (decide (0 < bits BinOp.and IntKind.i64 p.h 4)) (numberedV p.a0 p.a19) p.a5 p.a10 p.a12 p.a4.size p.a6.size p.l7.length p.a11.size p.l13.length p.a17.size p.l18.length p.l22 p.l24 p.l23.length
def P.foreign (p : P) : Bool := foreignV p.a0 p.a1 p.a2 p.a3 p.a4 p.a5 p.a6 p.l7 p.a8 p.a9 p.a10 p.a11 p.a12 p.l13 p.a14 p.a15 p.a16 p.a17 p.l18 p.a19 p.a20 p.a21 p.l22 p.l23 p.l24 p.h (smV p.a6 p.l7 p.a8 p.a9) (smV p.a17 p.l18 p.a19 p.a20)
def P.check (p : P) : Int := if p.a0 < 1 then 20 else if 14 < p.a0 then 20 else checkV
  (p.foreign || (decide (p.a1 < 0) || (decide (255 < p.a1) || (decide (p.a15 < 0) || (decide (255 < p.a15) || (decide (p.a3 < 0) || decide (65535 < p.a3)))))))
  (!txtV p.a4 || !txtV p.a11)
  ((p.a5 && (topV p.a6 != 0)) || (decide (0 < bits BinOp.and IntKind.i64 p.h 4) && (topV p.a17 != 0)))
  (!filtersV p.l22 p.l24)
  (!qualV p)
  (numberedV p.a0 p.a19 && (decide (p.a21 < 1) || decide (65535 < p.a21)))
  (decide (65535 < (p.l7.length : Int)) || (decide (65535 < (p.l13.length : Int)) || decide (268435455 < p.len)))
  ((decide (0 < bits BinOp.and IntKind.i64 p.h 16) && ((p.l22.length : Int) == 0)) || ((decide (0 < bits BinOp.and IntKind.i64 p.h 32) && ((p.l23.length : Int) == 0)) || (decide (0 < bits BinOp.and IntKind.i64 p.h 64) && ((p.l24.length : Int) == 0))))
  ((p.a12 && !p.a10) || ((p.a16 && (p.a19 == 0)) || (p.a14 && (p.a15 != 0))))
theorem sm_some (t : ByteArray) (l : List Int) (q : Int) (r : Bool) : packet_sameMessage.f t l q r ⟨#[]⟩ [] 0 false = some (smV t l q r) := by
  unfold packet_sameMessage.f packet_plainly.f bytes_Equal.f smV
  simp only [Option.bind_some]
  have e : (⟨#[]⟩ : ByteArray).toList = [] := by simp
  by_cases h : (t.toList == (⟨#[]⟩ : ByteArray).toList && (q == 0 && r == false)) = true
  · rw [if_pos h]; rw [e] at h; rw [h]; rfl
  · rw [if_neg h]; rw [e] at h; rw [Bool.eq_false_iff.mpr h]; rfl
theorem text_some (s : ByteArray) : packet_text.f s = some (txtV s) := by
  unfold packet_text.f wire_Check.f txtV wcode; rfl
theorem top_some {s : ByteArray} (h : s.size ≤ 4294967280) : topic_Check.f s = some (topV s) := by
  unfold topic_Check.f topic_text.f topV strings_ContainsAny.f
  simp only [Option.bind_some]
  by_cases h0 : txt s = 0
  · have hc : True ∧ s.size ≤ 4294967280 := ⟨trivial, h⟩
    rw [if_pos h0, if_pos h0, if_pos hc]
    cases Cr.wildIn (Cr.bl s) <;> rfl
  · rw [if_neg h0, if_neg h0]
theorem isQ_some (q : Int) : packet_isQoS.f q = some (isQ q) := by
  unfold packet_isQoS.f isQ
  by_cases h : q ≥ 0
  · rw [if_pos h, decide_eq_true (show 0 ≤ q from h)]; rfl
  · rw [if_neg h, decide_eq_false (show ¬ 0 ≤ q from h)]; rfl
theorem drop_at {α : Type} (l : List α) (z : α) (x : Int) (h0 : 0 ≤ x) (h1 : x < l.length) : l.drop x.toNat = l.getD x.toNat z :: l.drop (x + 1).toNat := by
  have e : (x + 1).toNat = x.toNat + 1 := by omega
  have hl : x.toNat < l.length := by omega
  rw [e, List.drop_eq_getElem_cons hl, List.getD_eq_getElem?_getD, List.getElem?_eq_getElem hl]; rfl
theorem wrap_up {i : Int} {n : Nat} (h0 : 0 ≤ i) (h : i < (n : Int)) (hn : (n : Int) ≤ 1125899906842624) : wrap64 (i + 1) = i + 1 := by unfold wrap64; omega
theorem ql1 (l : List Int) (hn : (l.length : Int) ≤ 1125899906842624) (d : Nat) : ∀ (k : Nat) (i : Int), 0 ≤ i → i ≤ l.length → (l.length : Int) - i = d → d < k →
    packet_qualities.l1 k l (l.length : Int) i = some ((l.drop i.toNat).all codeV) := by
  induction d with
  | zero =>
    intro k i h0 h1 hd hk
    obtain ⟨k, rfl⟩ : ∃ m, k = m + 1 := ⟨k - 1, by omega⟩
    simp only [packet_qualities.l1]; rw [if_neg (by omega), List.drop_of_length_le (by omega)]; rfl
  | succ d ih =>
    intro k i h0 h1 hd hk
    obtain ⟨k, rfl⟩ : ∃ m, k = m + 1 := ⟨k - 1, by omega⟩
    have hlt : i < (l.length : Int) := by omega
    simp only [packet_qualities.l1]
    rw [if_pos hlt, if_pos h0, if_pos hlt, isQ_some, wrap_up h0 hlt hn, ih k (i + 1) (by omega) (by omega) (by omega) (by omega), drop_at l 0 i h0 hlt]
    simp only [Option.bind_some, List.all_cons]
    show (if isQ (l.getD i.toNat 0) = true then _ else if l.getD i.toNat 0 = 128 then _ else _) = some ((isQ (l.getD i.toNat 0) || l.getD i.toNat 0 == 128) && _)
    by_cases hq : isQ (l.getD i.toNat 0) = true
    · rw [if_pos hq, hq]; rfl
    · rw [if_neg hq, Bool.eq_false_iff.mpr hq]
      by_cases h8 : l.getD i.toNat 0 = 128
      · rw [if_pos h8, beq_iff_eq.2 h8]; rfl
      · rw [if_neg h8, beq_eq_false_iff_ne.2 h8]; rfl
theorem ql0 (l : List S82) (m : List Int) (hn : (l.length : Int) ≤ 1125899906842624) (hm : (m.length : Int) ≤ 1125899906842624) (x0 : Int) (x1 : Int) (x2 : Bool) (x3 : Int) (x4 : ByteArray) (x5 : Bool) (x6 : ByteArray) (x7 : List Int) (x8 : Int) (x9 : Bool) (x10 : Bool) (x11 : ByteArray) (x12 : Bool) (x13 : List Int) (x14 : Bool) (x15 : Int) (x16 : Bool) (x17 : ByteArray) (x18 : List Int) (x19 : Int) (x20 : Bool) (x21 : Int) (x24 : List ByteArray) (d : Nat) : ∀ (k : Nat) (i : Int), 0 ≤ i → i ≤ l.length → (l.length : Int) - i = d → d + m.length + 2 < k →
    packet_qualities.l0 k l (l.length : Int) i x0 x1 x2 x3 x4 x5 x6 x7 x8 x9 x10 x11 x12 x13 x14 x15 x16 x17 x18 x19 x20 x21 l m x24 = some ((l.drop i.toNat).all (fun a => isQ a.f1) && m.all codeV) := by
  induction d with
  | zero =>
    intro k i h0 h1 hd hk
    obtain ⟨k, rfl⟩ : ∃ m, k = m + 1 := ⟨k - 1, by omega⟩
    simp only [packet_qualities.l0]; rw [if_neg (by omega), List.drop_of_length_le (by omega), ql1 m hm m.length k 0 (by omega) (by omega) (by omega) (by omega)]; rfl
  | succ d ih =>
    intro k i h0 h1 hd hk
    obtain ⟨k, rfl⟩ : ∃ m, k = m + 1 := ⟨k - 1, by omega⟩
    have hlt : i < (l.length : Int) := by omega
    simp only [packet_qualities.l0]
    rw [if_pos hlt, if_pos h0, if_pos hlt, isQ_some, wrap_up h0 hlt hn, ih k (i + 1) (by omega) (by omega) (by omega) (by omega), drop_at l z82 i h0 hlt]
    simp only [Option.bind_some, List.all_cons]
    show (if isQ (l.getD i.toNat z82).f1 = true then _ else _) = some (((isQ (l.getD i.toNat z82).f1) && _) && _)
    by_cases hq : isQ (l.getD i.toNat z82).f1 = true
    · rw [if_pos hq, hq]; rfl
    · rw [if_neg hq, Bool.eq_false_iff.mpr hq]; rfl
theorem qual_some (p : P) (h1 : (p.l22.length : Int) ≤ 1125899906842624) (h2 : (p.l23.length : Int) ≤ 1125899906842624) : ∃ k, packet_qualities.f k p.a0 p.a1 p.a2 p.a3 p.a4 p.a5 p.a6 p.l7 p.a8 p.a9 p.a10 p.a11 p.a12 p.l13 p.a14 p.a15 p.a16 p.a17 p.l18 p.a19 p.a20 p.a21 p.l22 p.l23 p.l24 = some (qualV p) := by
  refine ⟨p.l22.length + p.l23.length + 4, ?_⟩
  unfold packet_qualities.f qualV
  rw [isQ_some, isQ_some]
  simp only [Option.bind_some]
  by_cases hq : isQ p.a8 = true
  · rw [if_pos hq, hq]
    simp only [packet_qualities.j0]
    by_cases hr : isQ p.a19 = true
    · rw [hr, if_neg (by decide)]
      rw [ql0 p.l22 p.l23 h1 h2 p.a0 p.a1 p.a2 p.a3 p.a4 p.a5 p.a6 p.l7 p.a8 p.a9 p.a10 p.a11 p.a12 p.l13 p.a14 p.a15 p.a16 p.a17 p.l18 p.a19 p.a20 p.a21 p.l24 p.l22.length _ 0 (by omega) (by omega) (by omega) (by omega)]; rfl
    · rw [Bool.eq_false_iff.mpr hr]; rfl
  · rw [if_neg hq, Bool.eq_false_iff.mpr hq]; rfl

theorem sums {a b c d e f g h i j : Int} (H : a + b + c + d + e + f + g + h + i + j ≤ 4294967280) (ha : 0 ≤ a) (hb : 0 ≤ b) (hc : 0 ≤ c) (hd : 0 ≤ d) (he : 0 ≤ e) (hf : 0 ≤ f) (hg : 0 ≤ g) (hh : 0 ≤ h) (hi : 0 ≤ i) (hj : 0 ≤ j) :
    a ≤ 4294967280 ∧ b ≤ 4294967280 ∧ c ≤ 4294967280 ∧ d ≤ 4294967280 ∧ e ≤ 4294967280 ∧ f ≤ 4294967280 ∧ g ≤ 4294967280 ∧ h ≤ 4294967280 ∧ i ≤ 4294967280 ∧ j ≤ 4294967280 := by omega
theorem sumA_mem {l : List S82} {y : S82} (h : y ∈ l) : (y.f0.size : Int) ≤ sumA l := by
  induction l with
  | nil => simp at h
  | cons x l ih =>
    have hl := sumA_len l
    show _ ≤ 3 + (x.f0.size : Int) + sumA l
    rcases List.mem_cons.1 h with rfl | h
    · omega
    · have := ih h; omega
theorem sumT_mem {l : List ByteArray} {y : ByteArray} (h : y ∈ l) : (y.size : Int) ≤ sumT l := by
  induction l with
  | nil => simp at h
  | cons x l ih =>
    have hl := sumT_len l
    show _ ≤ 2 + (x.size : Int) + sumT l
    rcases List.mem_cons.1 h with rfl | h
    · omega
    · have := ih h; omega
theorem Check_in (a0 : Int) (a1 : Int) (a2 : Bool) (a3 : Int) (a4 : ByteArray) (a5 : Bool) (a6 : ByteArray) (A7 : Option Addr) (c7 : Nat) (l7 : List Int) (a8 : Int) (a9 : Bool) (a10 : Bool) (a11 : ByteArray) (a12 : Bool) (A13 : Option Addr) (c13 : Nat) (l13 : List Int) (a14 : Bool) (a15 : Int) (a16 : Bool) (a17 : ByteArray) (A18 : Option Addr) (c18 : Nat) (l18 : List Int) (a19 : Int) (a20 : Bool) (a21 : Int) (A22 : Option Addr) (c22 : Nat) (l22 : List S82) (A23 : Option Addr) (c23 : Nat) (l23 : List Int) (A24 : Option Addr) (c24 : Nat) (l24 : List ByteArray) (w : World) (hT : HasT w) (hr : Rd w A7 c7 l7 A13 c13 l13 A18 c18 l18 A22 c22 l22 A23 c23 l23 A24 c24 l24) (hs : P.sum ⟨a0, a1, a2, a3, a4, a5, a6, l7, a8, a9, a10, a11, a12, l13, a14, a15, a16, a17, l18, a19, a20, a21, l22, l23, l24⟩ ≤ 4294967280) (h1 : 1 ≤ a0) (h2 : a0 ≤ 14) :
    Calls Tryz.prog 24 #[.agg #[.int .i64 a0, .int .i64 a1, .bool a2, .int .i64 a3, .string a4, .bool a5, .string a6, .slice A7 l7.length c7, .int .i64 a8, .bool a9, .bool a10, .string a11, .bool a12, .slice A13 l13.length c13, .bool a14, .int .i64 a15, .bool a16, .string a17, .slice A18 l18.length c18, .int .i64 a19, .bool a20, .int .i64 a21, .slice A22 l22.length c22, .slice A23 l23.length c23, .slice A24 l24.length c24]] w fun e w' => e = .returned (.int .i64 (P.check ⟨a0, a1, a2, a3, a4, a5, a6, l7, a8, a9, a10, a11, a12, l13, a14, a15, a16, a17, l18, a19, a20, a21, l22, l23, l24⟩)) ∧ Below w.heap.size w w' := by
  have n22 := sumA_len l22
  have n24 := sumT_len l24
  have S := hs
  unfold P.sum at S
  simp only [] at S
  obtain ⟨s1, s2, s3, s4, s5, s6, s7, s8, s9, s10⟩ := sums S (by omega) (by omega) (by omega) (by omega) (by omega) (by omega) (by omega) (by omega) (by omega) (by omega)
  obtain ⟨kq, hq⟩ := qual_some ⟨a0, a1, a2, a3, a4, a5, a6, l7, a8, a9, a10, a11, a12, l13, a14, a15, a16, a17, l18, a19, a20, a21, l22, l23, l24⟩ (by simp only []; omega) (by simp only []; omega)
  refine Check_calls a0 a1 a2 a3 a4 a5 a6 A7 c7 l7 a8 a9 a10 a11 a12 A13 c13 l13 a14 a15 a16 a17 A18 c18 l18 a19 a20 a21 A22 c22 l22 A23 c23 l23 A24 c24 l24 (hasL.getD a0.toNat 0) (smV a6 l7 a8 a9) (smV a17 l18 a19 a20) (P.foreign ⟨a0, a1, a2, a3, a4, a5, a6, l7, a8, a9, a10, a11, a12, l13, a14, a15, a16, a17, l18, a19, a20, a21, l22, l23, l24⟩) (txtV a4) (txtV a11) (qualV ⟨a0, a1, a2, a3, a4, a5, a6, l7, a8, a9, a10, a11, a12, l13, a14, a15, a16, a17, l18, a19, a20, a21, l22, l23, l24⟩) (topV a6) (topV a17) (P.len ⟨a0, a1, a2, a3, a4, a5, a6, l7, a8, a9, a10, a11, a12, l13, a14, a15, a16, a17, l18, a19, a20, a21, l22, l23, l24⟩) _ kq w hT h1 h2 rfl hr.r7 hr.k7 hr.r13 hr.k13 hr.r18 hr.k18 hr.r22 hr.k22 hr.r23 hr.k23 hr.r24 hr.k24
    (by omega) (by omega) (fun y hy => by have := sumA_mem hy; omega) (fun y hy => by have := sumT_mem hy; omega) (sm_some _ _ _ _) (sm_some _ _ _ _) rfl (text_some _) (text_some _) (top_some (by omega)) (top_some (by omega)) hq (by omega) rfl ?_
  unfold P.check
  rw [if_neg (by simp only []; omega), if_neg (by simp only []; omega)]
  rfl
theorem Check_out (a0 : Int) (a1 : Int) (a2 : Bool) (a3 : Int) (a4 : ByteArray) (a5 : Bool) (a6 : ByteArray) (A7 : Option Addr) (c7 : Nat) (l7 : List Int) (a8 : Int) (a9 : Bool) (a10 : Bool) (a11 : ByteArray) (a12 : Bool) (A13 : Option Addr) (c13 : Nat) (l13 : List Int) (a14 : Bool) (a15 : Int) (a16 : Bool) (a17 : ByteArray) (A18 : Option Addr) (c18 : Nat) (l18 : List Int) (a19 : Int) (a20 : Bool) (a21 : Int) (A22 : Option Addr) (c22 : Nat) (l22 : List S82) (A23 : Option Addr) (c23 : Nat) (l23 : List Int) (A24 : Option Addr) (c24 : Nat) (l24 : List ByteArray) (w : World) (hk : a0 < 1 ∨ 14 < a0) :
    Calls Tryz.prog 24 #[.agg #[.int .i64 a0, .int .i64 a1, .bool a2, .int .i64 a3, .string a4, .bool a5, .string a6, .slice A7 l7.length c7, .int .i64 a8, .bool a9, .bool a10, .string a11, .bool a12, .slice A13 l13.length c13, .bool a14, .int .i64 a15, .bool a16, .string a17, .slice A18 l18.length c18, .int .i64 a19, .bool a20, .int .i64 a21, .slice A22 l22.length c22, .slice A23 l23.length c23, .slice A24 l24.length c24]] w fun e w' => e = .returned (.int .i64 20) ∧ Below w.heap.size w w' := by
  have HK := Aside0.mk (Kin.kind_no hk)
  have HB := Aside0.mk (Below.refl w.heap.size w)
  clear hk
  have hu29 := Tryz.underlying29
  go_enter Tryz.func24, Tryz.ntmps24
  go_upto_region 1 with (first | ((with_reducible refine gate_dst (N := 1) rfl ?_); refine box_event ?hg (N := 1) ?hd (cs := #[.int .i64 a0, .int .i64 a1, .bool a2, .int .i64 a3, .string a4, .bool a5, .string a6, .slice A7 l7.length c7, .int .i64 a8, .bool a9, .bool a10, .string a11, .bool a12, .slice A13 l13.length c13, .bool a14, .int .i64 a15, .bool a16, .string a17, .slice A18 l18.length c18, .int .i64 a19, .bool a20, .int .i64 a21, .slice A22 l22.length c22, .slice A23 l23.length c23, .slice A24 l24.length c24]) (t := 29) ?hr ?_; (case hd => rfl); (case hg => rfl); (case hr => first | (go_simp; done) | (go_simp; rfl)); intro gb hg w3 hbox hb; have n0_ := Aside0.mk (below_step HB.out hb); clear HB; have HB := n0_; clear n0_; have BK := Aside0.mk hbox; clear hb hbox hg))
  have hz0 : w3.cell? ⟨gb, 0, none⟩ = some (.int .i64 a0) := (blk_cell BK.out 0).trans rfl
  go_wp2_with (first | (go_at_call 92; (with_reducible refine (packet_isKind.calls a0 false _ HK.out).mono ?_); rintro e w' ⟨rfl, ⟨nd, rfl⟩⟩))
  go_ret
  exact ⟨rfl, pw_below_drewN HB.out _⟩
theorem Check_P (a0 : Int) (a1 : Int) (a2 : Bool) (a3 : Int) (a4 : ByteArray) (a5 : Bool) (a6 : ByteArray) (A7 : Option Addr) (c7 : Nat) (l7 : List Int) (a8 : Int) (a9 : Bool) (a10 : Bool) (a11 : ByteArray) (a12 : Bool) (A13 : Option Addr) (c13 : Nat) (l13 : List Int) (a14 : Bool) (a15 : Int) (a16 : Bool) (a17 : ByteArray) (A18 : Option Addr) (c18 : Nat) (l18 : List Int) (a19 : Int) (a20 : Bool) (a21 : Int) (A22 : Option Addr) (c22 : Nat) (l22 : List S82) (A23 : Option Addr) (c23 : Nat) (l23 : List Int) (A24 : Option Addr) (c24 : Nat) (l24 : List ByteArray) (w : World) (hT : HasT w) (hr : Rd w A7 c7 l7 A13 c13 l13 A18 c18 l18 A22 c22 l22 A23 c23 l23 A24 c24 l24) (hs : P.sum ⟨a0, a1, a2, a3, a4, a5, a6, l7, a8, a9, a10, a11, a12, l13, a14, a15, a16, a17, l18, a19, a20, a21, l22, l23, l24⟩ ≤ 4294967280) :
    Calls Tryz.prog 24 #[.agg #[.int .i64 a0, .int .i64 a1, .bool a2, .int .i64 a3, .string a4, .bool a5, .string a6, .slice A7 l7.length c7, .int .i64 a8, .bool a9, .bool a10, .string a11, .bool a12, .slice A13 l13.length c13, .bool a14, .int .i64 a15, .bool a16, .string a17, .slice A18 l18.length c18, .int .i64 a19, .bool a20, .int .i64 a21, .slice A22 l22.length c22, .slice A23 l23.length c23, .slice A24 l24.length c24]] w fun e w' => e = .returned (.int .i64 (P.check ⟨a0, a1, a2, a3, a4, a5, a6, l7, a8, a9, a10, a11, a12, l13, a14, a15, a16, a17, l18, a19, a20, a21, l22, l23, l24⟩)) ∧ Below w.heap.size w w' := by
  by_cases h1 : a0 < 1
  · refine (Check_out a0 a1 a2 a3 a4 a5 a6 A7 c7 l7 a8 a9 a10 a11 a12 A13 c13 l13 a14 a15 a16 a17 A18 c18 l18 a19 a20 a21 A22 c22 l22 A23 c23 l23 A24 c24 l24 w (.inl h1)).mono ?_
    rintro e w' ⟨rfl, hb⟩
    exact ⟨by unfold P.check; rw [if_pos h1], hb⟩
  · by_cases h2 : 14 < a0
    · refine (Check_out a0 a1 a2 a3 a4 a5 a6 A7 c7 l7 a8 a9 a10 a11 a12 A13 c13 l13 a14 a15 a16 a17 A18 c18 l18 a19 a20 a21 A22 c22 l22 A23 c23 l23 A24 c24 l24 w (.inr h2)).mono ?_
      rintro e w' ⟨rfl, hb⟩
      exact ⟨by unfold P.check; rw [if_neg h1, if_pos h2], hb⟩
    · exact Check_in a0 a1 a2 a3 a4 a5 a6 A7 c7 l7 a8 a9 a10 a11 a12 A13 c13 l13 a14 a15 a16 a17 A18 c18 l18 a19 a20 a21 A22 c22 l22 A23 c23 l23 A24 c24 l24 w hT hr hs (by omega) (by omega)

end Go.Proofs.YtndhkgfeknkfdaaGreatDoor.Pk
