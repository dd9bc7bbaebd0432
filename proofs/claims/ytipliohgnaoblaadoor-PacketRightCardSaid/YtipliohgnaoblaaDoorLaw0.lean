/- Laws of packets that pass Check. -/
import Derived.Test.YtipliohgnaoblaaDoorLf
namespace Go.Proofs.YtipliohgnaoblaaDoor.Pk
open Go.RowKit Go.Proofs.YtipliohgnaoblaaDoor.Giv Go.Proofs.YtipliohgnaoblaaDoorW.PrintWords Go.Proofs.YtipliohgnaoblaaDoorW.PrintLast Go.Proofs.YtipliohgnaoblaaDoorW.PrintMore Go.Proofs.YtipliohgnaoblaaDoor.MPacketStays
set_option linter.unusedVariables false
set_option linter.unusedSimpArgs false
set_option maxHeartbeats 2000000
set_option maxRecDepth 100000
theorem checkV_zero (e1 e2 e3 e4 e5 e6 e7 e8 e9 : Bool) : checkV e1 e2 e3 e4 e5 e6 e7 e8 e9 = 0 ↔ (e1 = false ∧ e2 = false ∧ e3 = false ∧ e4 = false ∧ e5 = false ∧ e6 = false ∧ e7 = false ∧ e8 = false ∧ e9 = false) := by
  unfold checkV
  cases e1 with
  | true => simp
  | false =>
  cases e2 with
  | true => simp
  | false =>
  cases e3 with
  | true => simp
  | false =>
  cases e4 with
  | true => simp
  | false =>
  cases e5 with
  | true => simp
  | false =>
  cases e6 with
  | true => simp
  | false =>
  cases e7 with
  | true => simp
  | false =>
  cases e8 with
  | true => simp
  | false =>
  cases e9 with
  | true => simp
  | false => simp
theorem check0 (p : P) : p.check = 0 ↔ ((1 ≤ p.a0 ∧ p.a0 ≤ 14) ∧
  (p.foreign || (decide (p.a1 < 0) || (decide (255 < p.a1) || (decide (p.a15 < 0) || (decide (255 < p.a15) || (decide (p.a3 < 0) || decide (65535 < p.a3))))))) = false ∧
  (!txtV p.a4 || !txtV p.a11) = false ∧
  ((p.a5 && (topV p.a6 != 0)) || (decide (0 < bits BinOp.and IntKind.i64 p.h 4) && (topV p.a17 != 0))) = false ∧
  (!filtersV p.l22 p.l24) = false ∧
  (!qualV p) = false ∧
  (numberedV p.a0 p.a19 && (decide (p.a21 < 1) || decide (65535 < p.a21))) = false ∧
  (decide (65535 < (p.l7.length : Int)) || (decide (65535 < (p.l13.length : Int)) || decide (268435455 < p.len))) = false ∧
  ((decide (0 < bits BinOp.and IntKind.i64 p.h 16) && ((p.l22.length : Int) == 0)) || ((decide (0 < bits BinOp.and IntKind.i64 p.h 32) && ((p.l23.length : Int) == 0)) || (decide (0 < bits BinOp.and IntKind.i64 p.h 64) && ((p.l24.length : Int) == 0)))) = false ∧
  ((p.a12 && !p.a10) || ((p.a16 && (p.a19 == 0)) || (p.a14 && (p.a15 != 0)))) = false) := by
  rw [← checkV_zero]
  unfold P.check
  by_cases h1 : p.a0 < 1
  · rw [if_pos h1]
    constructor
    · intro h; exact absurd h (by decide)
    · rintro ⟨⟨h, _⟩, _⟩; omega
  rw [if_neg h1]
  by_cases h2 : 14 < p.a0
  · rw [if_pos h2]
    constructor
    · intro h; exact absurd h (by decide)
    · rintro ⟨⟨_, h⟩, _⟩; omega
  rw [if_neg h2]
  exact ⟨fun h => ⟨⟨by omega, by omega⟩, h⟩, fun h => h.2⟩
theorem len1_nn (b1 b5 b10 b12 : Bool) (s4 s6 s7 s11 s13 : Int) (h4 : 0 ≤ s4) (h6 : 0 ≤ s6) (h7 : 0 ≤ s7) (h11 : 0 ≤ s11) (h13 : 0 ≤ s13) : 0 ≤ len1 b1 b5 b10 b12 s4 s6 s7 s11 s13 := by
  unfold len1 partV
  cases b1 <;> cases b5 <;> cases b10 <;> cases b12 <;> simp <;> omega
theorem h_four {k : Int} (h1 : 1 ≤ k) (h2 : k ≤ 14) (h : ¬ bits BinOp.and IntKind.i64 (hasL.getD k.toNat 0) 4 = 0) : k = 3 := by
  have : k = 1 ∨ k = 2 ∨ k = 3 ∨ k = 4 ∨ k = 5 ∨ k = 6 ∨ k = 7 ∨ k = 8 ∨ k = 9 ∨ k = 10 ∨ k = 11 ∨ k = 12 ∨ k = 13 ∨ k = 14 := by omega
  rcases this with rfl | rfl | rfl | rfl | rfl | rfl | rfl | rfl | rfl | rfl | rfl | rfl | rfl | rfl <;> first | rfl | exact absurd (by decide) h
theorem len_nn (p : P) : 0 ≤ p.len := by
  unfold P.len lenV partV
  have h1 := sumA_len p.l22
  have h2 := sumT_len p.l24
  have h3 := len1_nn (decide (0 < bits BinOp.and IntKind.i64 p.h 1)) p.a5 p.a10 p.a12 p.a4.size p.a6.size p.l7.length p.a11.size p.l13.length (by omega) (by omega) (by omega) (by omega) (by omega)
  cases numberedV p.a0 p.a19 <;> cases (decide (0 < bits BinOp.and IntKind.i64 p.h 4)) <;> cases (decide (0 < bits BinOp.and IntKind.i64 p.h 2)) <;> simp <;> omega
end Go.Proofs.YtipliohgnaoblaaDoor.Pk
