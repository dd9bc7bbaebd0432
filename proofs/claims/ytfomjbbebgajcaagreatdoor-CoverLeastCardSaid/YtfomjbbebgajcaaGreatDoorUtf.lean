/- The model's decoding of a string tells texts as the plain law does. -/
import Derived.Test.YtfomjbbebgajcaaGreatDoorFil
namespace Go.Proofs.YtfomjbbebgajcaaGreatDoor.Giv
open Go.RowKit
set_option linter.unusedVariables false
set_option linter.unusedSimpArgs false

/-- the model's decoding, of four bytes of which the later ones may lack -/
def decN (x0 x1 x2 x3 : Nat) (e1 e2 e3 : Bool) : Nat × Nat :=
 if x0 < 0x80 then (x0, 1)
 else if x0 / 32 == 6 && (e1 && x1 / 64 == 2) then
  (if (x0 % 32) * 64 + x1 % 64 ≥ 0x80 then ((x0 % 32) * 64 + x1 % 64, 2) else (65533, 1))
 else if x0 / 16 == 14 && (e1 && x1 / 64 == 2) && (e2 && x2 / 64 == 2) then
  (if (x0 % 16) * 4096 + (x1 % 64) * 64 + x2 % 64 ≥ 0x800 && Utf8.valid (((x0 % 16) * 4096 + (x1 % 64) * 64 + x2 % 64 : Nat) : Int) then ((x0 % 16) * 4096 + (x1 % 64) * 64 + x2 % 64, 3) else (65533, 1))
 else if x0 / 8 == 30 && (e1 && x1 / 64 == 2) && (e2 && x2 / 64 == 2) && (e3 && x3 / 64 == 2) then
  (if (x0 % 8) * 262144 + (x1 % 64) * 4096 + (x2 % 64) * 64 + x3 % 64 ≥ 0x10000 && Utf8.valid (((x0 % 8) * 262144 + (x1 % 64) * 4096 + (x2 % 64) * 64 + x3 % 64 : Nat) : Int) then ((x0 % 8) * 262144 + (x1 % 64) * 4096 + (x2 % 64) * 64 + x3 % 64, 4) else (65533, 1))
 else (65533, 1)
theorem decode_N (s : ByteArray) (i : Nat) : Utf8.decode s i = decN (s.get! (i + 0)).toNat (s.get! (i + 1)).toNat (s.get! (i + 2)).toNat (s.get! (i + 3)).toNat (decide (i + 1 < s.size)) (decide (i + 2 < s.size)) (decide (i + 3 < s.size)) := rfl

theorem valid_iff (c : Nat) : Utf8.valid (c : Int) = true ↔ c < 0xD800 ∨ (0xE000 ≤ c ∧ c ≤ 0x10FFFF) := by
 unfold Utf8.valid
 simp only [Bool.or_eq_true, Bool.and_eq_true, decide_eq_true_eq]
 omega

/-- what the leading byte asks of those behind it, in numbers -/
def wantN (x0 x1 x2 x3 : Nat) (e1 e2 e3 : Bool) : Nat :=
 if x0 < 0x80 then 1
 else if 0xC2 ≤ x0 ∧ x0 ≤ 0xDF then (if e1 = true ∧ 0x80 ≤ x1 ∧ x1 ≤ 0xBF then 2 else 0)
 else if x0 = 0xE0 then (if e1 = true ∧ e2 = true ∧ 0xA0 ≤ x1 ∧ x1 ≤ 0xBF ∧ 0x80 ≤ x2 ∧ x2 ≤ 0xBF then 3 else 0)
 else if x0 = 0xED then (if e1 = true ∧ e2 = true ∧ 0x80 ≤ x1 ∧ x1 ≤ 0x9F ∧ 0x80 ≤ x2 ∧ x2 ≤ 0xBF then 3 else 0)
 else if 0xE1 ≤ x0 ∧ x0 ≤ 0xEF then (if e1 = true ∧ e2 = true ∧ 0x80 ≤ x1 ∧ x1 ≤ 0xBF ∧ 0x80 ≤ x2 ∧ x2 ≤ 0xBF then 3 else 0)
 else if x0 = 0xF0 then (if e1 = true ∧ e2 = true ∧ e3 = true ∧ 0x90 ≤ x1 ∧ x1 ≤ 0xBF ∧ 0x80 ≤ x2 ∧ x2 ≤ 0xBF ∧ 0x80 ≤ x3 ∧ x3 ≤ 0xBF then 4 else 0)
 else if 0xF1 ≤ x0 ∧ x0 ≤ 0xF3 then (if e1 = true ∧ e2 = true ∧ e3 = true ∧ 0x80 ≤ x1 ∧ x1 ≤ 0xBF ∧ 0x80 ≤ x2 ∧ x2 ≤ 0xBF ∧ 0x80 ≤ x3 ∧ x3 ≤ 0xBF then 4 else 0)
 else if x0 = 0xF4 then (if e1 = true ∧ e2 = true ∧ e3 = true ∧ 0x80 ≤ x1 ∧ x1 ≤ 0x8F ∧ 0x80 ≤ x2 ∧ x2 ≤ 0xBF ∧ 0x80 ≤ x3 ∧ x3 ≤ 0xBF then 4 else 0)
 else 0

def Good4 (x0 x1 x2 x3 : Nat) (e1 e2 e3 : Bool) (W : Nat) (D : Nat × Nat) : Prop :=
 (W ≠ 0 → D.2 = W ∧ (0x80 ≤ x0 → 0x80 ≤ D.1) ∧ (x0 < 0x80 → D.1 = x0) ∧ (D.1 = 65533 → e2 = true ∧ x0 = 0xEF ∧ x1 = 0xBF ∧ x2 = 0xBD)) ∧
  (W = 0 → D = (65533, 1) ∧ ¬ (e1 = true ∧ e2 = true ∧ x0 = 0xEF ∧ x1 = 0xBF ∧ x2 = 0xBD))
theorem Good4.bad {x0 x1 x2 x3 : Nat} {e1 e2 e3 : Bool} (h : ¬ (e1 = true ∧ e2 = true ∧ x0 = 0xEF ∧ x1 = 0xBF ∧ x2 = 0xBD)) : Good4 x0 x1 x2 x3 e1 e2 e3 0 (65533, 1) := ⟨fun h => absurd rfl h, fun _ => ⟨rfl, h⟩⟩
theorem Good4.good {x0 x1 x2 x3 : Nat} {e1 e2 e3 : Bool} {c n : Nat} (hn : n ≠ 0) (h1 : 0x80 ≤ x0) (h2 : 0x80 ≤ c) (h3 : c = 65533 → e2 = true ∧ x0 = 0xEF ∧ x1 = 0xBF ∧ x2 = 0xBD) : Good4 x0 x1 x2 x3 e1 e2 e3 n (c, n) :=
 ⟨fun _ => ⟨rfl, fun _ => h2, fun h => by omega, h3⟩, fun h => absurd h hn⟩
theorem dec_A {x0 x1 x2 x3 : Nat} {e1 e2 e3 : Bool} (h0 : x0 < 256) (h1 : x1 < 256) (h2 : x2 < 256) (h3 : x3 < 256) (c0 : ¬ x0 < 0x80) (hc : 0xC2 ≤ x0 ∧ x0 ≤ 0xDF) :
  Good4 x0 x1 x2 x3 e1 e2 e3 (wantN x0 x1 x2 x3 e1 e2 e3) (decN x0 x1 x2 x3 e1 e2 e3) := by
 have k1 : (x0 / 32 == 6) = true := by rw [beq_iff_eq]; omega
 have k2 : (x0 / 16 == 14) = false := by rw [beq_eq_false_iff_ne]; show x0 / 16 ≠ 14; omega
 have k3 : (x0 / 8 == 30) = false := by rw [beq_eq_false_iff_ne]; show x0 / 8 ≠ 30; omega
 unfold wantN decN
 simp only [c0, eq_true hc, k1, k2, k3, if_true, if_false, Bool.true_and, Bool.false_and, Bool.false_eq_true, and_self]
 cases e1
 all_goals simp only [Bool.false_and, Bool.true_and, Bool.and_false, Bool.false_eq_true, if_false, false_and, and_false, true_and]
 all_goals first | exact Good4.bad (by rintro ⟨a, b, c, d, e⟩; first | omega | exact absurd a (by decide) | exact absurd b (by decide)) | skip
 by_cases b1 : x1 / 64 = 2
 ·simp only [(beq_iff_eq.2 b1 : (x1 / 64 == 2) = true), Bool.and_self, if_true]
  by_cases hw : 0x80 ≤ x1 ∧ x1 ≤ 0xBF
  ·rw [if_pos hw, if_pos (by first | omega | (simp only [Bool.and_eq_true, decide_eq_true_eq, valid_iff]; omega))]
   exact Good4.good (by decide) (by omega) (by omega) (by intro h; first | omega | exact ⟨rfl, by omega, by omega, by omega⟩)
  ·rw [if_neg hw, if_neg (by first | omega | (simp only [Bool.and_eq_true, decide_eq_true_eq, valid_iff]; omega))]
   exact Good4.bad (by rintro ⟨a, b, c, d, e⟩; omega)
 ·simp only [(beq_eq_false_iff_ne.2 b1 : (x1 / 64 == 2) = false), Bool.false_and, Bool.and_false, Bool.false_eq_true, if_false]
  rw [if_neg (by omega)]
  exact Good4.bad (by rintro ⟨a, b, c, d, e⟩; omega)
theorem dec_B {x0 x1 x2 x3 : Nat} {e1 e2 e3 : Bool} (h0 : x0 < 256) (h1 : x1 < 256) (h2 : x2 < 256) (h3 : x3 < 256) (c0 : ¬ x0 < 0x80) (hc : x0 = 0xE0) (p0 : ¬ (0xC2 ≤ x0 ∧ x0 ≤ 0xDF)) :
  Good4 x0 x1 x2 x3 e1 e2 e3 (wantN x0 x1 x2 x3 e1 e2 e3) (decN x0 x1 x2 x3 e1 e2 e3) := by
 have k1 : (x0 / 32 == 6) = false := by rw [beq_eq_false_iff_ne]; show x0 / 32 ≠ 6; omega
 have k2 : (x0 / 16 == 14) = true := by rw [beq_iff_eq]; omega
 have k3 : (x0 / 8 == 30) = false := by rw [beq_eq_false_iff_ne]; show x0 / 8 ≠ 30; omega
 unfold wantN decN
 simp only [c0, p0, eq_true hc, k1, k2, k3, if_true, if_false, Bool.true_and, Bool.false_and, Bool.false_eq_true, and_self]
 cases e1 <;> cases e2
 all_goals simp only [Bool.false_and, Bool.true_and, Bool.and_false, Bool.false_eq_true, if_false, false_and, and_false, true_and]
 all_goals first | exact Good4.bad (by rintro ⟨a, b, c, d, e⟩; first | omega | exact absurd a (by decide) | exact absurd b (by decide)) | skip
 by_cases b1 : x1 / 64 = 2
 ·by_cases b2 : x2 / 64 = 2
  ·simp only [(beq_iff_eq.2 b1 : (x1 / 64 == 2) = true), (beq_iff_eq.2 b2 : (x2 / 64 == 2) = true), Bool.and_self, if_true]
   by_cases hw : 0xA0 ≤ x1 ∧ x1 ≤ 0xBF ∧ 0x80 ≤ x2 ∧ x2 ≤ 0xBF
   ·rw [if_pos hw, if_pos (by first | omega | (simp only [Bool.and_eq_true, decide_eq_true_eq, valid_iff]; omega))]
    exact Good4.good (by decide) (by omega) (by omega) (by intro h; first | omega | exact ⟨rfl, by omega, by omega, by omega⟩)
   ·rw [if_neg hw, if_neg (by first | omega | (simp only [Bool.and_eq_true, decide_eq_true_eq, valid_iff]; omega))]
    exact Good4.bad (by rintro ⟨a, b, c, d, e⟩; omega)
  ·simp only [(beq_eq_false_iff_ne.2 b2 : (x2 / 64 == 2) = false), Bool.false_and, Bool.and_false, Bool.false_eq_true, if_false]
   rw [if_neg (by omega)]
   exact Good4.bad (by rintro ⟨a, b, c, d, e⟩; omega)
 ·simp only [(beq_eq_false_iff_ne.2 b1 : (x1 / 64 == 2) = false), Bool.false_and, Bool.and_false, Bool.false_eq_true, if_false]
  rw [if_neg (by omega)]
  exact Good4.bad (by rintro ⟨a, b, c, d, e⟩; omega)
theorem dec_C {x0 x1 x2 x3 : Nat} {e1 e2 e3 : Bool} (h0 : x0 < 256) (h1 : x1 < 256) (h2 : x2 < 256) (h3 : x3 < 256) (c0 : ¬ x0 < 0x80) (hc : x0 = 0xED) (p0 : ¬ (0xC2 ≤ x0 ∧ x0 ≤ 0xDF)) (p1 : ¬ (x0 = 0xE0)) :
  Good4 x0 x1 x2 x3 e1 e2 e3 (wantN x0 x1 x2 x3 e1 e2 e3) (decN x0 x1 x2 x3 e1 e2 e3) := by
 have k1 : (x0 / 32 == 6) = false := by rw [beq_eq_false_iff_ne]; show x0 / 32 ≠ 6; omega
 have k2 : (x0 / 16 == 14) = true := by rw [beq_iff_eq]; omega
 have k3 : (x0 / 8 == 30) = false := by rw [beq_eq_false_iff_ne]; show x0 / 8 ≠ 30; omega
 unfold wantN decN
 simp only [c0, p0, p1, eq_true hc, k1, k2, k3, if_true, if_false, Bool.true_and, Bool.false_and, Bool.false_eq_true, and_self]
 cases e1 <;> cases e2
 all_goals simp only [Bool.false_and, Bool.true_and, Bool.and_false, Bool.false_eq_true, if_false, false_and, and_false, true_and]
 all_goals first | exact Good4.bad (by rintro ⟨a, b, c, d, e⟩; first | omega | exact absurd a (by decide) | exact absurd b (by decide)) | skip
 by_cases b1 : x1 / 64 = 2
 ·by_cases b2 : x2 / 64 = 2
  ·simp only [(beq_iff_eq.2 b1 : (x1 / 64 == 2) = true), (beq_iff_eq.2 b2 : (x2 / 64 == 2) = true), Bool.and_self, if_true]
   by_cases hw : 0x80 ≤ x1 ∧ x1 ≤ 0x9F ∧ 0x80 ≤ x2 ∧ x2 ≤ 0xBF
   ·rw [if_pos hw, if_pos (by first | omega | (simp only [Bool.and_eq_true, decide_eq_true_eq, valid_iff]; omega))]
    exact Good4.good (by decide) (by omega) (by omega) (by intro h; first | omega | exact ⟨rfl, by omega, by omega, by omega⟩)
   ·rw [if_neg hw, if_neg (by first | omega | (simp only [Bool.and_eq_true, decide_eq_true_eq, valid_iff]; omega))]
    exact Good4.bad (by rintro ⟨a, b, c, d, e⟩; omega)
  ·simp only [(beq_eq_false_iff_ne.2 b2 : (x2 / 64 == 2) = false), Bool.false_and, Bool.and_false, Bool.false_eq_true, if_false]
   rw [if_neg (by omega)]
   exact Good4.bad (by rintro ⟨a, b, c, d, e⟩; omega)
 ·simp only [(beq_eq_false_iff_ne.2 b1 : (x1 / 64 == 2) = false), Bool.false_and, Bool.and_false, Bool.false_eq_true, if_false]
  rw [if_neg (by omega)]
  exact Good4.bad (by rintro ⟨a, b, c, d, e⟩; omega)
theorem dec_D {x0 x1 x2 x3 : Nat} {e1 e2 e3 : Bool} (h0 : x0 < 256) (h1 : x1 < 256) (h2 : x2 < 256) (h3 : x3 < 256) (c0 : ¬ x0 < 0x80) (hc : 0xE1 ≤ x0 ∧ x0 ≤ 0xEF) (p0 : ¬ (0xC2 ≤ x0 ∧ x0 ≤ 0xDF)) (p1 : ¬ (x0 = 0xE0)) (p2 : ¬ (x0 = 0xED)) :
  Good4 x0 x1 x2 x3 e1 e2 e3 (wantN x0 x1 x2 x3 e1 e2 e3) (decN x0 x1 x2 x3 e1 e2 e3) := by
 have k1 : (x0 / 32 == 6) = false := by rw [beq_eq_false_iff_ne]; show x0 / 32 ≠ 6; omega
 have k2 : (x0 / 16 == 14) = true := by rw [beq_iff_eq]; omega
 have k3 : (x0 / 8 == 30) = false := by rw [beq_eq_false_iff_ne]; show x0 / 8 ≠ 30; omega
 unfold wantN decN
 simp only [c0, p0, p1, p2, eq_true hc, k1, k2, k3, if_true, if_false, Bool.true_and, Bool.false_and, Bool.false_eq_true, and_self]
 cases e1 <;> cases e2
 all_goals simp only [Bool.false_and, Bool.true_and, Bool.and_false, Bool.false_eq_true, if_false, false_and, and_false, true_and]
 all_goals first | exact Good4.bad (by rintro ⟨a, b, c, d, e⟩; first | omega | exact absurd a (by decide) | exact absurd b (by decide)) | skip
 by_cases b1 : x1 / 64 = 2
 ·by_cases b2 : x2 / 64 = 2
  ·simp only [(beq_iff_eq.2 b1 : (x1 / 64 == 2) = true), (beq_iff_eq.2 b2 : (x2 / 64 == 2) = true), Bool.and_self, if_true]
   by_cases hw : 0x80 ≤ x1 ∧ x1 ≤ 0xBF ∧ 0x80 ≤ x2 ∧ x2 ≤ 0xBF
   ·rw [if_pos hw, if_pos (by first | omega | (simp only [Bool.and_eq_true, decide_eq_true_eq, valid_iff]; omega))]
    exact Good4.good (by decide) (by omega) (by omega) (by intro h; first | omega | exact ⟨rfl, by omega, by omega, by omega⟩)
   ·rw [if_neg hw, if_neg (by first | omega | (simp only [Bool.and_eq_true, decide_eq_true_eq, valid_iff]; omega))]
    exact Good4.bad (by rintro ⟨a, b, c, d, e⟩; omega)
  ·simp only [(beq_eq_false_iff_ne.2 b2 : (x2 / 64 == 2) = false), Bool.false_and, Bool.and_false, Bool.false_eq_true, if_false]
   rw [if_neg (by omega)]
   exact Good4.bad (by rintro ⟨a, b, c, d, e⟩; omega)
 ·simp only [(beq_eq_false_iff_ne.2 b1 : (x1 / 64 == 2) = false), Bool.false_and, Bool.and_false, Bool.false_eq_true, if_false]
  rw [if_neg (by omega)]
  exact Good4.bad (by rintro ⟨a, b, c, d, e⟩; omega)
theorem dec_E {x0 x1 x2 x3 : Nat} {e1 e2 e3 : Bool} (h0 : x0 < 256) (h1 : x1 < 256) (h2 : x2 < 256) (h3 : x3 < 256) (c0 : ¬ x0 < 0x80) (hc : x0 = 0xF0) (p0 : ¬ (0xC2 ≤ x0 ∧ x0 ≤ 0xDF)) (p1 : ¬ (x0 = 0xE0)) (p2 : ¬ (x0 = 0xED)) (p3 : ¬ (0xE1 ≤ x0 ∧ x0 ≤ 0xEF)) :
  Good4 x0 x1 x2 x3 e1 e2 e3 (wantN x0 x1 x2 x3 e1 e2 e3) (decN x0 x1 x2 x3 e1 e2 e3) := by
 have k1 : (x0 / 32 == 6) = false := by rw [beq_eq_false_iff_ne]; show x0 / 32 ≠ 6; omega
 have k2 : (x0 / 16 == 14) = false := by rw [beq_eq_false_iff_ne]; show x0 / 16 ≠ 14; omega
 have k3 : (x0 / 8 == 30) = true := by rw [beq_iff_eq]; omega
 unfold wantN decN
 simp only [c0, p0, p1, p2, p3, eq_true hc, k1, k2, k3, if_true, if_false, Bool.true_and, Bool.false_and, Bool.false_eq_true, and_self]
 cases e1 <;> cases e2 <;> cases e3
 all_goals simp only [Bool.false_and, Bool.true_and, Bool.and_false, Bool.false_eq_true, if_false, false_and, and_false, true_and]
 all_goals first | exact Good4.bad (by rintro ⟨a, b, c, d, e⟩; first | omega | exact absurd a (by decide) | exact absurd b (by decide)) | skip
 by_cases b1 : x1 / 64 = 2
 ·by_cases b2 : x2 / 64 = 2
  ·by_cases b3 : x3 / 64 = 2
   ·simp only [(beq_iff_eq.2 b1 : (x1 / 64 == 2) = true), (beq_iff_eq.2 b2 : (x2 / 64 == 2) = true), (beq_iff_eq.2 b3 : (x3 / 64 == 2) = true), Bool.and_self, if_true]
    by_cases hw : 0x90 ≤ x1 ∧ x1 ≤ 0xBF ∧ 0x80 ≤ x2 ∧ x2 ≤ 0xBF ∧ 0x80 ≤ x3 ∧ x3 ≤ 0xBF
    ·rw [if_pos hw, if_pos (by first | omega | (simp only [Bool.and_eq_true, decide_eq_true_eq, valid_iff]; omega))]
     exact Good4.good (by decide) (by omega) (by omega) (by intro h; first | omega | exact ⟨rfl, by omega, by omega, by omega⟩)
    ·rw [if_neg hw, if_neg (by first | omega | (simp only [Bool.and_eq_true, decide_eq_true_eq, valid_iff]; omega))]
     exact Good4.bad (by rintro ⟨a, b, c, d, e⟩; omega)
   ·simp only [(beq_eq_false_iff_ne.2 b3 : (x3 / 64 == 2) = false), Bool.false_and, Bool.and_false, Bool.false_eq_true, if_false]
    rw [if_neg (by omega)]
    exact Good4.bad (by rintro ⟨a, b, c, d, e⟩; omega)
  ·simp only [(beq_eq_false_iff_ne.2 b2 : (x2 / 64 == 2) = false), Bool.false_and, Bool.and_false, Bool.false_eq_true, if_false]
   rw [if_neg (by omega)]
   exact Good4.bad (by rintro ⟨a, b, c, d, e⟩; omega)
 ·simp only [(beq_eq_false_iff_ne.2 b1 : (x1 / 64 == 2) = false), Bool.false_and, Bool.and_false, Bool.false_eq_true, if_false]
  rw [if_neg (by omega)]
  exact Good4.bad (by rintro ⟨a, b, c, d, e⟩; omega)
theorem dec_F {x0 x1 x2 x3 : Nat} {e1 e2 e3 : Bool} (h0 : x0 < 256) (h1 : x1 < 256) (h2 : x2 < 256) (h3 : x3 < 256) (c0 : ¬ x0 < 0x80) (hc : 0xF1 ≤ x0 ∧ x0 ≤ 0xF3) (p0 : ¬ (0xC2 ≤ x0 ∧ x0 ≤ 0xDF)) (p1 : ¬ (x0 = 0xE0)) (p2 : ¬ (x0 = 0xED)) (p3 : ¬ (0xE1 ≤ x0 ∧ x0 ≤ 0xEF)) (p4 : ¬ (x0 = 0xF0)) :
  Good4 x0 x1 x2 x3 e1 e2 e3 (wantN x0 x1 x2 x3 e1 e2 e3) (decN x0 x1 x2 x3 e1 e2 e3) := by
 have k1 : (x0 / 32 == 6) = false := by rw [beq_eq_false_iff_ne]; show x0 / 32 ≠ 6; omega
 have k2 : (x0 / 16 == 14) = false := by rw [beq_eq_false_iff_ne]; show x0 / 16 ≠ 14; omega
 have k3 : (x0 / 8 == 30) = true := by rw [beq_iff_eq]; omega
 unfold wantN decN
 simp only [c0, p0, p1, p2, p3, p4, eq_true hc, k1, k2, k3, if_true, if_false, Bool.true_and, Bool.false_and, Bool.false_eq_true, and_self]
 cases e1 <;> cases e2 <;> cases e3
 all_goals simp only [Bool.false_and, Bool.true_and, Bool.and_false, Bool.false_eq_true, if_false, false_and, and_false, true_and]
 all_goals first | exact Good4.bad (by rintro ⟨a, b, c, d, e⟩; first | omega | exact absurd a (by decide) | exact absurd b (by decide)) | skip
 by_cases b1 : x1 / 64 = 2
 ·by_cases b2 : x2 / 64 = 2
  ·by_cases b3 : x3 / 64 = 2
   ·simp only [(beq_iff_eq.2 b1 : (x1 / 64 == 2) = true), (beq_iff_eq.2 b2 : (x2 / 64 == 2) = true), (beq_iff_eq.2 b3 : (x3 / 64 == 2) = true), Bool.and_self, if_true]
    by_cases hw : 0x80 ≤ x1 ∧ x1 ≤ 0xBF ∧ 0x80 ≤ x2 ∧ x2 ≤ 0xBF ∧ 0x80 ≤ x3 ∧ x3 ≤ 0xBF
    ·rw [if_pos hw, if_pos (by first | omega | (simp only [Bool.and_eq_true, decide_eq_true_eq, valid_iff]; omega))]
     exact Good4.good (by decide) (by omega) (by omega) (by intro h; first | omega | exact ⟨rfl, by omega, by omega, by omega⟩)
    ·rw [if_neg hw, if_neg (by first | omega | (simp only [Bool.and_eq_true, decide_eq_true_eq, valid_iff]; omega))]
     exact Good4.bad (by rintro ⟨a, b, c, d, e⟩; omega)
   ·simp only [(beq_eq_false_iff_ne.2 b3 : (x3 / 64 == 2) = false), Bool.false_and, Bool.and_false, Bool.false_eq_true, if_false]
    rw [if_neg (by omega)]
    exact Good4.bad (by rintro ⟨a, b, c, d, e⟩; omega)
  ·simp only [(beq_eq_false_iff_ne.2 b2 : (x2 / 64 == 2) = false), Bool.false_and, Bool.and_false, Bool.false_eq_true, if_false]
   rw [if_neg (by omega)]
   exact Good4.bad (by rintro ⟨a, b, c, d, e⟩; omega)
 ·simp only [(beq_eq_false_iff_ne.2 b1 : (x1 / 64 == 2) = false), Bool.false_and, Bool.and_false, Bool.false_eq_true, if_false]
  rw [if_neg (by omega)]
  exact Good4.bad (by rintro ⟨a, b, c, d, e⟩; omega)
theorem dec_G {x0 x1 x2 x3 : Nat} {e1 e2 e3 : Bool} (h0 : x0 < 256) (h1 : x1 < 256) (h2 : x2 < 256) (h3 : x3 < 256) (c0 : ¬ x0 < 0x80) (hc : x0 = 0xF4) (p0 : ¬ (0xC2 ≤ x0 ∧ x0 ≤ 0xDF)) (p1 : ¬ (x0 = 0xE0)) (p2 : ¬ (x0 = 0xED)) (p3 : ¬ (0xE1 ≤ x0 ∧ x0 ≤ 0xEF)) (p4 : ¬ (x0 = 0xF0)) (p5 : ¬ (0xF1 ≤ x0 ∧ x0 ≤ 0xF3)) :
  Good4 x0 x1 x2 x3 e1 e2 e3 (wantN x0 x1 x2 x3 e1 e2 e3) (decN x0 x1 x2 x3 e1 e2 e3) := by
 have k1 : (x0 / 32 == 6) = false := by rw [beq_eq_false_iff_ne]; show x0 / 32 ≠ 6; omega
 have k2 : (x0 / 16 == 14) = false := by rw [beq_eq_false_iff_ne]; show x0 / 16 ≠ 14; omega
 have k3 : (x0 / 8 == 30) = true := by rw [beq_iff_eq]; omega
 unfold wantN decN
 simp only [c0, p0, p1, p2, p3, p4, p5, eq_true hc, k1, k2, k3, if_true, if_false, Bool.true_and, Bool.false_and, Bool.false_eq_true, and_self]
 cases e1 <;> cases e2 <;> cases e3
 all_goals simp only [Bool.false_and, Bool.true_and, Bool.and_false, Bool.false_eq_true, if_false, false_and, and_false, true_and]
 all_goals first | exact Good4.bad (by rintro ⟨a, b, c, d, e⟩; first | omega | exact absurd a (by decide) | exact absurd b (by decide)) | skip
 by_cases b1 : x1 / 64 = 2
 ·by_cases b2 : x2 / 64 = 2
  ·by_cases b3 : x3 / 64 = 2
   ·simp only [(beq_iff_eq.2 b1 : (x1 / 64 == 2) = true), (beq_iff_eq.2 b2 : (x2 / 64 == 2) = true), (beq_iff_eq.2 b3 : (x3 / 64 == 2) = true), Bool.and_self, if_true]
    by_cases hw : 0x80 ≤ x1 ∧ x1 ≤ 0x8F ∧ 0x80 ≤ x2 ∧ x2 ≤ 0xBF ∧ 0x80 ≤ x3 ∧ x3 ≤ 0xBF
    ·rw [if_pos hw, if_pos (by first | omega | (simp only [Bool.and_eq_true, decide_eq_true_eq, valid_iff]; omega))]
     exact Good4.good (by decide) (by omega) (by omega) (by intro h; first | omega | exact ⟨rfl, by omega, by omega, by omega⟩)
    ·rw [if_neg hw, if_neg (by first | omega | (simp only [Bool.and_eq_true, decide_eq_true_eq, valid_iff]; omega))]
     exact Good4.bad (by rintro ⟨a, b, c, d, e⟩; omega)
   ·simp only [(beq_eq_false_iff_ne.2 b3 : (x3 / 64 == 2) = false), Bool.false_and, Bool.and_false, Bool.false_eq_true, if_false]
    rw [if_neg (by omega)]
    exact Good4.bad (by rintro ⟨a, b, c, d, e⟩; omega)
  ·simp only [(beq_eq_false_iff_ne.2 b2 : (x2 / 64 == 2) = false), Bool.false_and, Bool.and_false, Bool.false_eq_true, if_false]
   rw [if_neg (by omega)]
   exact Good4.bad (by rintro ⟨a, b, c, d, e⟩; omega)
 ·simp only [(beq_eq_false_iff_ne.2 b1 : (x1 / 64 == 2) = false), Bool.false_and, Bool.and_false, Bool.false_eq_true, if_false]
  rw [if_neg (by omega)]
  exact Good4.bad (by rintro ⟨a, b, c, d, e⟩; omega)
theorem decN_want {x0 x1 x2 x3 : Nat} {e1 e2 e3 : Bool} (h0 : x0 < 256) (h1 : x1 < 256) (h2 : x2 < 256) (h3 : x3 < 256) : Good4 x0 x1 x2 x3 e1 e2 e3 (wantN x0 x1 x2 x3 e1 e2 e3) (decN x0 x1 x2 x3 e1 e2 e3) := by
 by_cases c0 : x0 < 0x80
 ·unfold wantN decN
  simp only [c0, if_true]
  exact ⟨fun _ => ⟨rfl, fun h => by omega, fun _ => rfl, fun h => by simp only [] at h; omega⟩, fun h => by simp at h⟩
 by_cases p0 : 0xC2 ≤ x0 ∧ x0 ≤ 0xDF
 ·exact dec_A h0 h1 h2 h3 c0 p0
 by_cases p1 : x0 = 0xE0
 ·exact dec_B h0 h1 h2 h3 c0 p1 p0
 by_cases p2 : x0 = 0xED
 ·exact dec_C h0 h1 h2 h3 c0 p2 p0 p1
 by_cases p3 : 0xE1 ≤ x0 ∧ x0 ≤ 0xEF
 ·exact dec_D h0 h1 h2 h3 c0 p3 p0 p1 p2
 by_cases p4 : x0 = 0xF0
 ·exact dec_E h0 h1 h2 h3 c0 p4 p0 p1 p2 p3
 by_cases p5 : 0xF1 ≤ x0 ∧ x0 ≤ 0xF3
 ·exact dec_F h0 h1 h2 h3 c0 p5 p0 p1 p2 p3 p4
 by_cases p6 : x0 = 0xF4
 ·exact dec_G h0 h1 h2 h3 c0 p6 p0 p1 p2 p3 p4 p5
 have hw : wantN x0 x1 x2 x3 e1 e2 e3 = 0 := by unfold wantN; simp only [c0, p0, p1, p2, p3, p4, p5, p6, if_false]
 have hd : decN x0 x1 x2 x3 e1 e2 e3 = (65533, 1) := by
  unfold decN
  rw [if_neg c0]
  split
  ·rename_i h
   simp only [Bool.and_eq_true, beq_iff_eq] at h
   rw [if_neg (by omega)]
  ·split
   ·rename_i _ h
    simp only [Bool.and_eq_true, beq_iff_eq] at h
    omega
   ·split
    ·rename_i _ _ h
     simp only [Bool.and_eq_true, beq_iff_eq] at h
     rw [if_neg (by simp only [Bool.and_eq_true, decide_eq_true_eq, valid_iff]; omega)]
    ·rfl
 rw [hw, hd]
 exact Good4.bad (by rintro ⟨a, b, c, d, e⟩; omega)
/-- the same of the plain law -/
def wantL (a : UInt8) (r : Cr.T) : Nat := match Cr.more a with | none => 0 | some (n, lo, hi) => if Cr.conts n lo hi r = true then n + 1 else 0
theorem okB_want (a : UInt8) (r : Cr.T) (h : a ≠ 0) : Cr.okB (a :: r) = if wantL a r = 0 then false else Cr.okB ((a :: r).drop (wantL a r)) := by
 rw [Cr.okB_cons, if_neg h]
 unfold wantL
 cases Cr.more a with
 | none => rfl
 | some p =>
  obtain ⟨n, lo, hi⟩ := p
  simp only []
  cases hc : Cr.conts n lo hi r
  ·simp
  ·simp
theorem conts1 (lo hi b : UInt8) (r : Cr.T) : Cr.conts 1 lo hi (b :: r) = (decide (lo.toNat ≤ b.toNat) && decide (b.toNat ≤ hi.toNat)) := by
 simp [Cr.conts, UInt8.le_iff_toNat_le]
theorem contsS (n : Nat) (lo hi b : UInt8) (r : Cr.T) : Cr.conts (n + 1) lo hi (b :: r) = (decide (lo.toNat ≤ b.toNat) && decide (b.toNat ≤ hi.toNat) && Cr.conts n 0x80 0xBF r) := by
 simp [Cr.conts, UInt8.le_iff_toNat_le]
def at_ (r : Cr.T) (j : Nat) : Nat := (r.getD j 0).toNat
theorem ite_iff {p q : Prop} [Decidable p] [Decidable q] {α : Type} {a b : α} (h : p ↔ q) : (if p then a else b) = (if q then a else b) := by
 by_cases hp : p
 ·rw [if_pos hp, if_pos (h.1 hp)]
 ·rw [if_neg hp, if_neg (fun hq => hp (h.2 hq))]
theorem c1 (lo hi : UInt8) (r : Cr.T) : Cr.conts 1 lo hi r = true ↔ decide (0 < r.length) = true ∧ lo.toNat ≤ at_ r 0 ∧ at_ r 0 ≤ hi.toNat := by
 cases r with
 | nil => simp [Cr.conts]
 | cons b r => rw [conts1]; simp [at_]
theorem c2 (lo hi : UInt8) (r : Cr.T) : Cr.conts 2 lo hi r = true ↔ decide (0 < r.length) = true ∧ decide (1 < r.length) = true ∧ lo.toNat ≤ at_ r 0 ∧ at_ r 0 ≤ hi.toNat ∧ 0x80 ≤ at_ r 1 ∧ at_ r 1 ≤ 0xBF := by
 cases r with
 | nil => simp [Cr.conts]
 | cons b r =>
  rw [contsS, Bool.and_eq_true, c1]
  simp only [Bool.and_eq_true, decide_eq_true_eq, List.length_cons]
  show (lo.toNat ≤ b.toNat ∧ b.toNat ≤ hi.toNat) ∧ 0 < r.length ∧ 128 ≤ at_ r 0 ∧ at_ r 0 ≤ 191 ↔ 0 < r.length + 1 ∧ 1 < r.length + 1 ∧ lo.toNat ≤ b.toNat ∧ b.toNat ≤ hi.toNat ∧ 128 ≤ at_ r 0 ∧ at_ r 0 ≤ 191
  omega
theorem c3 (lo hi : UInt8) (r : Cr.T) : Cr.conts 3 lo hi r = true ↔ decide (0 < r.length) = true ∧ decide (1 < r.length) = true ∧ decide (2 < r.length) = true ∧ lo.toNat ≤ at_ r 0 ∧ at_ r 0 ≤ hi.toNat ∧ 0x80 ≤ at_ r 1 ∧ at_ r 1 ≤ 0xBF ∧ 0x80 ≤ at_ r 2 ∧ at_ r 2 ≤ 0xBF := by
 cases r with
 | nil => simp [Cr.conts]
 | cons b r =>
  rw [contsS, Bool.and_eq_true, c2]
  simp only [Bool.and_eq_true, decide_eq_true_eq, List.length_cons]
  show (lo.toNat ≤ b.toNat ∧ b.toNat ≤ hi.toNat) ∧ 0 < r.length ∧ 1 < r.length ∧ 128 ≤ at_ r 0 ∧ at_ r 0 ≤ 191 ∧ 128 ≤ at_ r 1 ∧ at_ r 1 ≤ 191 ↔ 0 < r.length + 1 ∧ 1 < r.length + 1 ∧ 2 < r.length + 1 ∧ lo.toNat ≤ b.toNat ∧ b.toNat ≤ hi.toNat ∧ 128 ≤ at_ r 0 ∧ at_ r 0 ≤ 191 ∧ 128 ≤ at_ r 1 ∧ at_ r 1 ≤ 191
  omega
theorem wantL_N (a : UInt8) (r : Cr.T) : wantL a r = wantN a.toNat (at_ r 0) (at_ r 1) (at_ r 2) (decide (0 < r.length)) (decide (1 < r.length)) (decide (2 < r.length)) := by
 have e : ∀ b : UInt8, a = b ↔ a.toNat = b.toNat := fun b => UInt8.toNat_inj.symm
 have h256 : a.toNat < 256 := a.toNat_lt
 unfold wantL Cr.more wantN
 simp only [UInt8.lt_iff_toNat_lt, UInt8.le_iff_toNat_le, e]
 by_cases c0 : a.toNat < 128
 ·have : a.toNat < (128 : UInt8).toNat := c0
  simp only [this, if_true, c0, Cr.conts]
 ·have n0 : ¬ a.toNat < (128 : UInt8).toNat := c0
  simp only [n0, if_false, c0]
  by_cases p0 : 194 ≤ a.toNat ∧ a.toNat ≤ 223
  ·have : (194 : UInt8).toNat ≤ a.toNat ∧ a.toNat ≤ (223 : UInt8).toNat := p0
   simp only [this, and_self, if_true, p0]
   exact ite_iff (c1 _ _ _)
  ·have n1 : ¬ ((194 : UInt8).toNat ≤ a.toNat ∧ a.toNat ≤ (223 : UInt8).toNat) := p0
   simp only [n1, if_false, p0]
   by_cases p1 : a.toNat = 224
   ·have : a.toNat = (224 : UInt8).toNat := p1
    simp only [eq_true this, if_true, eq_true p1]
    exact ite_iff (c2 _ _ _)
   ·have n2 : ¬ a.toNat = (224 : UInt8).toNat := p1
    simp only [n2, if_false, p1]
    by_cases p2 : a.toNat = 237
    ·have : a.toNat = (237 : UInt8).toNat := p2
     simp only [eq_true this, if_true, eq_true p2]
     exact ite_iff (c2 _ _ _)
    ·have n3 : ¬ a.toNat = (237 : UInt8).toNat := p2
     simp only [n3, if_false, p2]
     by_cases p3 : 225 ≤ a.toNat ∧ a.toNat ≤ 239
     ·have : (225 : UInt8).toNat ≤ a.toNat ∧ a.toNat ≤ (239 : UInt8).toNat := p3
      simp only [this, and_self, if_true, p3]
      exact ite_iff (c2 _ _ _)
     ·have n4 : ¬ ((225 : UInt8).toNat ≤ a.toNat ∧ a.toNat ≤ (239 : UInt8).toNat) := p3
      simp only [n4, if_false, p3]
      by_cases p4 : a.toNat = 240
      ·have : a.toNat = (240 : UInt8).toNat := p4
       simp only [eq_true this, if_true, eq_true p4]
       exact ite_iff (c3 _ _ _)
      ·have n5 : ¬ a.toNat = (240 : UInt8).toNat := p4
       simp only [n5, if_false, p4]
       by_cases p5 : 241 ≤ a.toNat ∧ a.toNat ≤ 243
       ·have : (241 : UInt8).toNat ≤ a.toNat ∧ a.toNat ≤ (243 : UInt8).toNat := p5
        simp only [this, and_self, if_true, p5]
        exact ite_iff (c3 _ _ _)
       ·have n6 : ¬ ((241 : UInt8).toNat ≤ a.toNat ∧ a.toNat ≤ (243 : UInt8).toNat) := p5
        simp only [n6, if_false, p5]
        by_cases p6 : a.toNat = 244
        ·have : a.toNat = (244 : UInt8).toNat := p6
         simp only [eq_true this, if_true, eq_true p6]
         exact ite_iff (c3 _ _ _)
        ·have n7 : ¬ a.toNat = (244 : UInt8).toNat := p6
         simp only [n7, if_false, p6]
theorem get_getD (s : ByteArray) (k : Nat) : s.get! k = (Cr.bl s).getD k 0 := by
 by_cases h : k < s.size
 ·rw [Cr.get_bl s k h, List.getD_eq_getElem?_getD, List.getElem?_eq_getElem (by rw [Cr.bl_len]; exact h)]; rfl
 ·rw [List.getD_eq_getElem?_getD, List.getElem?_eq_none (by rw [Cr.bl_len]; omega)]
  show s.get! k = 0
  simp only [ByteArray.get!]
  have : ¬ k < s.data.size := h
  simp only [getElem!_def, Array.getElem?_eq_none (Nat.le_of_not_lt this)]; rfl
theorem at_get (s : ByteArray) (i j : Nat) : at_ ((Cr.bl s).drop (i + 1)) j = (s.get! (i + (j + 1))).toNat := by
 rw [get_getD]
 unfold at_
 simp only [List.getD_eq_getElem?_getD, List.getElem?_drop]
 rw [show i + 1 + j = i + (j + 1) by omega]
theorem want_decode (s : ByteArray) (i : Nat) (h : i < s.size) : Good4 (s.get! i).toNat (s.get! (i + 1)).toNat (s.get! (i + 2)).toNat (s.get! (i + 3)).toNat (decide (i + 1 < s.size)) (decide (i + 2 < s.size)) (decide (i + 3 < s.size)) (wantL (s.get! i) ((Cr.bl s).drop (i + 1))) (Utf8.decode s i) := by
 rw [decode_N, wantL_N, at_get, at_get, at_get]
 have e : ∀ j, decide (j < ((Cr.bl s).drop (i + 1)).length) = decide (i + (j + 1) < s.size) := by
  intro j
  rw [List.length_drop, Cr.bl_len, decide_eq_decide]; omega
 rw [e, e, e]
 exact decN_want (s.get! i).toNat_lt (s.get! (i + 1)).toNat_lt (s.get! (i + 2)).toNat_lt (s.get! (i + 3)).toNat_lt
theorem drop_cons (s : ByteArray) (i : Nat) (h : i < s.size) : (Cr.bl s).drop i = s.get! i :: (Cr.bl s).drop (i + 1) := by
 rw [Cr.get_bl s i h]
 exact List.drop_eq_getElem_cons (by rw [Cr.bl_len]; exact h)

theorem hasFffd_iff (s : ByteArray) (i : Nat) : hasFffd s i = true ↔ i + 2 < s.size ∧ (s.get! i).toNat = 0xEF ∧ (s.get! (i + 1)).toNat = 0xBF ∧ (s.get! (i + 2)).toNat = 0xBD := by
 have hsz : (s.extract i s.size).size = s.size - i := by rw [← Cr.bl_len, bl_extract, List.length_drop, List.length_take, Cr.bl_len]; omega
 unfold hasFffd
 rw [hsz]
 by_cases h : ((s.size - i : Nat) : Int) ≥ 3
 ·rw [if_pos h]
  have hi : i + 2 < s.size := by omega
  have e : ((s.extract i s.size).extract 0 3).toList = [s.get! i, s.get! (i + 1), s.get! (i + 2)] := by
   have : ((s.extract i s.size).extract 0 3).toList = Cr.bl ((s.extract i s.size).extract 0 3) := Lib.toList_data _
   rw [this, bl_extract, bl_extract]
   rw [List.take_of_length_le (show (Cr.bl s).length ≤ s.size by rw [Cr.bl_len]; exact Nat.le_refl _), List.drop_zero]
   rw [drop_cons s i (by omega), drop_cons s (i + 1) (by omega), drop_cons s (i + 2) (by omega)]
   rfl
  rw [e]
  have e2 : fffd.toList = [239, 191, 189] := by rw [show fffd.toList = Cr.bl fffd from Lib.toList_data _]
  rw [e2]
  simp only [beq_iff_eq, List.cons.injEq, and_true]
  constructor
  ·rintro ⟨h1, h2, h3⟩
   rw [h1, h2, h3]; exact ⟨hi, by decide, by decide, by decide⟩
  ·rintro ⟨_, h1, h2, h3⟩
   exact ⟨UInt8.toNat_inj.1 h1, UInt8.toNat_inj.1 h2, UInt8.toNat_inj.1 h3⟩
 ·rw [if_neg h]
  simp only [Bool.false_eq_true, false_iff]
  rintro ⟨h1, _⟩; omega

theorem decode_width_le (s : ByteArray) (i : Nat) (h : i < s.size) : 1 ≤ (Utf8.decode s i).2 ∧ i + (Utf8.decode s i).2 ≤ s.size := ⟨(Cr.decode_width s i h).1, (Cr.decode_width s i h).2.1⟩
theorem wcL_ok (s : ByteArray) : ∀ (k i : Nat), i ≤ s.size → s.size < i + k → ((wcL s k i).2 = 0 ↔ Cr.okB ((Cr.bl s).drop i) = true)
 | 0, i, h1, h2 => by omega
 | k + 1, i, h1, h2 => by
  simp only [wcL]
  by_cases h : i < s.size
  ·rw [if_pos h, drop_cons s i h]
   have hg := want_decode s i h
   have hw := decode_width_le s i h
   obtain ⟨g1, g2⟩ := hg
   by_cases h0 : s.get! i = 0
   ·have hd : (Utf8.decode s i).1 = 0 := by
     have hz : (s.get! i).toNat = 0 := by rw [h0]; rfl
     have hwn : wantL (s.get! i) ((Cr.bl s).drop (i + 1)) ≠ 0 := by rw [h0]; show (1 : Nat) ≠ 0; omega
     have := (g1 hwn).2.2.1 (by omega)
     rw [this, hz]
    rw [if_pos hd, Cr.okB_cons, if_pos h0]
    simp
   ·rw [okB_want _ _ h0]
    by_cases hwn : wantL (s.get! i) ((Cr.bl s).drop (i + 1)) = 0
    ·obtain ⟨e1, e2⟩ := g2 hwn
     rw [if_pos hwn, e1]
     have hf : hasFffd s i = false := by
      cases hc : hasFffd s i with
      | false => rfl
      | true =>
       have := (hasFffd_iff s i).1 hc
       exact absurd ⟨by simp; omega, by simpa using this.1, this.2.1, this.2.2.1, this.2.2.2⟩ e2
     rw [if_neg (by decide), if_pos ⟨rfl, hf⟩]
     simp
    ·obtain ⟨e1, e2, e3, e4⟩ := g1 hwn
     rw [if_neg hwn]
     have hne : (Utf8.decode s i).1 ≠ 0 := by
      by_cases hs : 0x80 ≤ (s.get! i).toNat
      ·have := e2 hs; omega
      ·rw [e3 (by omega)]
       intro hz
       exact h0 (UInt8.toNat_inj.1 hz)
     have hnf : ¬ ((Utf8.decode s i).1 = 65533 ∧ hasFffd s i = false) := by
      rintro ⟨a, b⟩
      obtain ⟨q1, q2, q3, q4⟩ := e4 a
      have := (hasFffd_iff s i).2 ⟨by simpa using q1, q2, q3, q4⟩
      rw [this] at b; cases b
     rw [if_neg hne, if_neg hnf, e1]
     rw [e1] at hw
     rw [wcL_ok s k _ (by omega) (by omega)]
     rw [← drop_cons s i h, List.drop_drop]
  ·rw [if_neg h]
   rw [List.drop_eq_nil_of_le (by rw [Cr.bl_len]; omega), Cr.okB_nil]
   simp

theorem wcode_ok (s : ByteArray) : (wcode s).2 = 0 ↔ Cr.isText (Cr.bl s) = true := by
 unfold wcode Cr.isText
 rw [Cr.bl_len]
 by_cases h : (s.size : Int) > 65535
 ·rw [if_pos h]
  have : decide (s.size ≤ 65535) = false := decide_eq_false (by omega)
  simp [this]
 ·rw [if_neg h]
  have : decide (s.size ≤ 65535) = true := decide_eq_true (by omega)
  rw [this, Bool.true_and, wcL_ok s _ 0 (by omega) (by omega), List.drop_zero]
theorem txt_ok (s : ByteArray) : txt s = 0 ↔ Cr.bl s ≠ [] ∧ Cr.isText (Cr.bl s) = true := by
 unfold txt
 have he : s.size = 0 ↔ Cr.bl s = [] := by rw [← Cr.bl_len, List.length_eq_zero_iff]
 by_cases h : s.size = 0
 ·rw [if_pos h]; simp [he.1 h]
 ·rw [if_neg h]
  have hne : Cr.bl s ≠ [] := fun e => h (he.2 e)
  by_cases hw : (wcode s).2 = 0
  ·rw [if_pos hw]; simp [hne, (wcode_ok s).1 hw]
  ·rw [if_neg hw]
   have : ¬ Cr.isText (Cr.bl s) = true := fun e => hw ((wcode_ok s).2 e)
   simp [this]
end Go.Proofs.YtfomjbbebgajcaaGreatDoor.Giv
