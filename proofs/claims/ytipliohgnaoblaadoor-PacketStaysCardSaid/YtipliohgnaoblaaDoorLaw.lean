/- Laws of packets that pass Check. -/
import Derived.Test.YtipliohgnaoblaaDoorLf
namespace Go.Proofs.YtipliohgnaoblaaDoor.Pk
open Go.RowKit Go.Proofs.YtipliohgnaoblaaDoor.Giv Go.Proofs.YtipliohgnaoblaaDoorW.PrintWords Go.Proofs.YtipliohgnaoblaaDoorW.PrintLast Go.Proofs.YtipliohgnaoblaaDoorW.PrintMore Go.Proofs.YtipliohgnaoblaaDoor.MPacketStays
set_option linter.unusedVariables false
set_option linter.unusedSimpArgs false
set_option maxHeartbeats 2000000
set_option maxRecDepth 100000
theorem checkV_zero (e1 e2 e3 e4 e5 e6 e7 e8 e9 : Bool) : checkV e1 e2 e3 e4 e5 e6 e7 e8 e9 = 0 ↔ (e1 = false ∧ e2 = false ∧ e3 = false ∧ e4 = false ∧ e5 = false ∧ e6 = false ∧ e7 = false ∧ e8 = false ∧ e9 = false) := by
  unfold checkV
  cases e1 with
  | true => simp
  | false =>
  cases e2 with
  | true => simp
  | false =>
  cases e3 with
  | true => simp
  | false =>
  cases e4 with
  | true => simp
  | false =>
  cases e5 with
  | true => simp
  | false =>
  cases e6 with
  | true => simp
  | false =>
  cases e7 with
  | true => simp
  | false =>
  cases e8 with
  | true => simp
  | false =>
  cases e9 with
  | true => simp
  | false => simp
theorem check0 (p : P) : p.check = 0 ↔ ((1 ≤ p.a0 ∧ p.a0 ≤ 14) ∧
  (p.foreign || (decide (p.a1 < 0) || (decide (255 < p.a1) || (decide (p.a15 < 0) || (decide (255 < p.a15) || (decide (p.a3 < 0) || decide (65535 < p.a3))))))) = false ∧
  (!txtV p.a4 || !txtV p.a11) = false ∧
  ((p.a5 && (topV p.a6 != 0)) || (decide (0 < bits BinOp.and IntKind.i64 p.h 4) && (topV p.a17 != 0))) = false ∧
  (!filtersV p.l22 p.l24) = false ∧
  (!qualV p) = false ∧
  (numberedV p.a0 p.a19 && (decide (p.a21 < 1) || decide (65535 < p.a21))) = false ∧
  (decide (65535 < (p.l7.length : Int)) || (decide (65535 < (p.l13.length : Int)) || decide (268435455 < p.len))) = false ∧
  ((decide (0 < bits BinOp.and IntKind.i64 p.h 16) && ((p.l22.length : Int) == 0)) || ((decide (0 < bits BinOp.and IntKind.i64 p.h 32) && ((p.l23.length : Int) == 0)) || (decide (0 < bits BinOp.and IntKind.i64 p.h 64) && ((p.l24.length : Int) == 0)))) = false ∧
  ((p.a12 && !p.a10) || ((p.a16 && (p.a19 == 0)) || (p.a14 && (p.a15 != 0)))) = false) := by
  rw [← checkV_zero]
  unfold P.check
  by_cases h1 : p.a0 < 1
  · rw [if_pos h1]
    constructor
    · intro h; exact absurd h (by decide)
    · rintro ⟨⟨h, _⟩, _⟩; omega
  rw [if_neg h1]
  by_cases h2 : 14 < p.a0
  · rw [if_pos h2]
    constructor
    · intro h; exact absurd h (by decide)
    · rintro ⟨⟨_, h⟩, _⟩; omega
  rw [if_neg h2]
  exact ⟨fun h => ⟨⟨by omega, by omega⟩, h⟩, fun h => h.2⟩
theorem len1_nn (b1 b5 b10 b12 : Bool) (s4 s6 s7 s11 s13 : Int) (h4 : 0 ≤ s4) (h6 : 0 ≤ s6) (h7 : 0 ≤ s7) (h11 : 0 ≤ s11) (h13 : 0 ≤ s13) : 0 ≤ len1 b1 b5 b10 b12 s4 s6 s7 s11 s13 := by
  unfold len1 partV
  cases b1 <;> cases b5 <;> cases b10 <;> cases b12 <;> simp <;> omega
theorem h_four {k : Int} (h1 : 1 ≤ k) (h2 : k ≤ 14) (h : ¬ bits BinOp.and IntKind.i64 (hasL.getD k.toNat 0) 4 = 0) : k = 3 := by
  have : k = 1 ∨ k = 2 ∨ k = 3 ∨ k = 4 ∨ k = 5 ∨ k = 6 ∨ k = 7 ∨ k = 8 ∨ k = 9 ∨ k = 10 ∨ k = 11 ∨ k = 12 ∨ k = 13 ∨ k = 14 := by omega
  rcases this with rfl | rfl | rfl | rfl | rfl | rfl | rfl | rfl | rfl | rfl | rfl | rfl | rfl | rfl <;> first | rfl | exact absurd (by decide) h
theorem len_nn (p : P) : 0 ≤ p.len := by
  unfold P.len lenV partV
  have h1 := sumA_len p.l22
  have h2 := sumT_len p.l24
  have h3 := len1_nn (decide (0 < bits BinOp.and IntKind.i64 p.h 1)) p.a5 p.a10 p.a12 p.a4.size p.a6.size p.l7.length p.a11.size p.l13.length (by omega) (by omega) (by omega) (by omega) (by omega)
  cases numberedV p.a0 p.a19 <;> cases (decide (0 < bits BinOp.and IntKind.i64 p.h 4)) <;> cases (decide (0 < bits BinOp.and IntKind.i64 p.h 2)) <;> simp <;> omega
theorem sm_nil {l : List Int} {t : ByteArray} {q : Int} {r : Bool} (h : smV t l q r = true) : l = [] := by
  unfold smV at h
  simp only [Bool.and_eq_true, beq_iff_eq] at h
  have h2 := h.2
  rw [Go.ByteArray.toList_eq, Go.ByteArray.toList_eq] at h2
  have h3 := congrArg List.length h2
  rw [strOfNums_data, strOfNums_data, List.length_map, List.length_map] at h3
  exact List.eq_nil_of_length_eq_zero h3
theorem cut_law {p : P} {v : Int} (hc : p.check = 0) (hs : p.sum ≤ 900000) (h0 : 0 ≤ v) (h1 : v < p.l18.length) :
    ({ p with l18 := p.l18.take v.toNat } : P).check = 0 ∧ ({ p with l18 := p.l18.take v.toNat } : P).sum ≤ 900000 ∧ (0 ≤ p.length ∧ p.length ≤ 268435455) ∧ ({ p with l18 := p.l18.take v.toNat } : P).length = p.length - p.l18.length + v := by
  obtain ⟨⟨k1, k2⟩, e1, e2, e3, e4, e5, e6, e7, e8, e9⟩ := (check0 p).1 hc
  have hh : ¬ bits BinOp.and IntKind.i64 p.h 4 = 0 := by
    intro hz
    simp only [Bool.or_eq_false_iff] at e1
    have hf := e1.1
    unfold P.foreign foreignV at hf
    rw [hz] at hf
    simp only [Bool.or_eq_false_iff, beq_self_eq_true, Bool.true_and, Bool.not_eq_false'] at hf
    have hm : smV p.a17 p.l18 p.a19 p.a20 = true := by
      have := hf.1.1.1.1.2.2
      simpa using this
    have := sm_nil hm
    rw [this] at h1
    simp at h1
    omega
  have h3 : p.a0 = 3 := h_four k1 k2 hh
  have hp4 : (bits BinOp.and IntKind.i64 p.h 4 == 0) = false := by simpa using hh
  have hlt : (List.length (p.l18.take v.toNat) : Int) = v := by rw [List.length_take]; omega
  have hb4 : decide (0 < bits BinOp.and IntKind.i64 p.h 4) = true := by
    unfold P.h; rw [h3]; decide
  have hl : ({ p with l18 := p.l18.take v.toNat } : P).len = p.len - p.l18.length + v := by
    show lenV _ _ (decide (0 < bits BinOp.and IntKind.i64 p.h 4)) _ _ _ _ _ _ _ _ _ _ ((p.l18.take v.toNat).length : Int) _ _ _ = lenV _ _ (decide (0 < bits BinOp.and IntKind.i64 p.h 4)) _ _ _ _ _ _ _ _ _ _ _ _ _ _ - _ + _
    rw [hb4, hlt]
    unfold lenV partV
    simp only [if_true]
    show (if numberedV p.a0 p.a19 = true then _ else _) + sumA p.l22 + sumT p.l24 + _ = (if numberedV p.a0 p.a19 = true then _ else _) + _ + _ + _ - _ + _
    split <;> omega
  have hn := len_nn p
  have hmx : p.len ≤ 268435455 := by
    simp only [Bool.or_eq_false_iff, decide_eq_false_iff_not] at e7
    omega
  have hck : ({ p with l18 := p.l18.take v.toNat } : P).check = 0 := by
    rw [check0]
    refine ⟨⟨k1, k2⟩, ?_, e2, e3, e4, e5, e6, ?_, e8, e9⟩
    · rw [← e1]
      show (P.foreign _ || _) = (P.foreign _ || _)
      congr 1
      unfold P.foreign foreignV
      show (_ || ((bits BinOp.and IntKind.i64 p.h 4 == 0) && _) || _ || _ || _ || _) = (_ || ((bits BinOp.and IntKind.i64 p.h 4 == 0) && _) || _ || _ || _ || _)
      rw [hp4]
      rfl
    · show (_ || (_ || decide (268435455 < P.len _))) = false
      rw [hl]
      simp only [Bool.or_eq_false_iff, decide_eq_false_iff_not] at e7 ⊢
      refine ⟨e7.1, e7.2.1, by omega⟩
  refine ⟨hck, ?_, ?_, ?_⟩
  · unfold P.sum at hs ⊢
    show _ + _ + _ + _ + _ + _ + ((p.l18.take v.toNat).length : Int) + _ + _ + _ ≤ _
    rw [hlt]
    show (p.a4.size : Int) + p.a6.size + p.l7.length + p.a11.size + p.l13.length + p.a17.size + v + p.l23.length + sumA p.l22 + sumT p.l24 ≤ 900000
    omega
  · unfold P.length; rw [if_pos hc]; exact ⟨hn, hmx⟩
  · unfold P.length; rw [if_pos hc, if_pos hck]; exact hl
/-- the same list, or one of several things less -/
def Less {α : Type} (l m : List α) : Prop := m = l ∨ ∃ i, i < l.length ∧ 1 < l.length ∧ m = l.eraseIdx i
theorem Less.len {α : Type} {l m : List α} (h : Less l m) : m.length ≤ l.length ∧ (m.length = 0 → l.length = 0) := by
  rcases h with rfl | ⟨i, hi, h1, rfl⟩
  · exact ⟨Nat.le_refl _, id⟩
  · rw [List.length_eraseIdx, if_pos hi]; omega
theorem Less.mem {α : Type} {l m : List α} (h : Less l m) {x : α} (hx : x ∈ m) : x ∈ l := by
  rcases h with rfl | ⟨i, hi, h1, rfl⟩
  · exact hx
  · exact List.mem_of_mem_eraseIdx hx
theorem sumA_split (l : List S45) (i : Nat) (h : i < l.length) : sumA (l.eraseIdx i) ≤ sumA l := by
  have e : l = l.take i ++ l.drop i := (List.take_append_drop i l).symm
  have e2 : l.drop i = [l[i]] ++ l.drop (i + 1) := List.drop_eq_getElem_cons h
  have h1 : sumA l = sumA (l.take i) + (sumA [l[i]] + sumA (l.drop (i + 1))) := by rw [← sumA_app, ← e2, ← sumA_app, ← e]
  rw [List.eraseIdx_eq_take_drop_succ, sumA_app, h1]
  have := sumA_len [l[i]]
  omega
theorem sumT_split (l : List ByteArray) (i : Nat) (h : i < l.length) : sumT (l.eraseIdx i) ≤ sumT l := by
  have e : l = l.take i ++ l.drop i := (List.take_append_drop i l).symm
  have e2 : l.drop i = [l[i]] ++ l.drop (i + 1) := List.drop_eq_getElem_cons h
  have h1 : sumT l = sumT (l.take i) + (sumT [l[i]] + sumT (l.drop (i + 1))) := by rw [← sumT_app, ← e2, ← sumT_app, ← e]
  rw [List.eraseIdx_eq_take_drop_succ, sumT_app, h1]
  have := sumT_len [l[i]]
  omega
theorem any_less {α : Type} {l m : List α} (h : Less l m) {f : α → Bool} (hf : l.any f = false) : m.any f = false := by
  rw [List.any_eq_false] at hf ⊢
  exact fun x hx => hf x (h.mem hx)
theorem all_less {α : Type} {l m : List α} (h : Less l m) {f : α → Bool} (hf : l.all f = true) : m.all f = true := by
  rw [List.all_eq_true] at hf ⊢
  exact fun x hx => hf x (h.mem hx)
theorem less_law {p : P} {m22 : List S45} {m24 : List ByteArray} (hc : p.check = 0) (hs : p.sum ≤ 900000) (h22 : Less p.l22 m22) (h24 : Less p.l24 m24) :
    ({ p with l22 := m22, l24 := m24 } : P).check = 0 ∧ ({ p with l22 := m22, l24 := m24 } : P).sum ≤ 900000 := by
  obtain ⟨⟨k1, k2⟩, e1, e2, e3, e4, e5, e6, e7, e8, e9⟩ := (check0 p).1 hc
  have sA : sumA m22 ≤ sumA p.l22 := by
    rcases h22 with h | ⟨i, hi, _, h⟩
    · rw [h]; exact Int.le_refl _
    · rw [h]; exact sumA_split _ _ hi
  have sT : sumT m24 ≤ sumT p.l24 := by
    rcases h24 with h | ⟨i, hi, _, h⟩
    · rw [h]; exact Int.le_refl _
    · rw [h]; exact sumT_split _ _ hi
  have hl : ({ p with l22 := m22, l24 := m24 } : P).len ≤ p.len := by
    show partV _ _ _ + sumA m22 + sumT m24 + _ ≤ partV _ _ _ + sumA p.l22 + sumT p.l24 + _
    have : ∀ a b c d e f : Int, c ≤ d → e ≤ f → a + c + e + b ≤ a + d + f + b := by intros; omega
    exact this _ _ _ _ _ _ sA sT
  have l22 := h22.len
  have l24 := h24.len
  refine ⟨?_, ?_⟩
  · rw [check0]
    refine ⟨⟨k1, k2⟩, ?_, e2, e3, ?_, ?_, e6, ?_, ?_, e9⟩
    · simp only [Bool.or_eq_false_iff] at e1 ⊢
      refine ⟨?_, e1.2⟩
      have hf := e1.1
      unfold P.foreign foreignV at hf ⊢
      simp only [Bool.or_eq_false_iff] at hf ⊢
      obtain ⟨⟨⟨f1, f2⟩, f3⟩, f4⟩ := hf
      refine ⟨⟨⟨f1, ?_⟩, f3⟩, ?_⟩
      · show ((bits BinOp.and IntKind.i64 p.h 16 == 0) && decide (0 < (m22.length : Int))) = false
        rw [Bool.and_eq_false_iff] at f2 ⊢
        rcases f2 with h | h
        · exact .inl h
        · rw [decide_eq_false_iff_not] at h
          refine .inr ?_
          rw [decide_eq_false_iff_not]
          omega
      · show ((bits BinOp.and IntKind.i64 p.h 64 == 0) && decide (0 < (m24.length : Int))) = false
        rw [Bool.and_eq_false_iff] at f4 ⊢
        rcases f4 with h | h
        · exact .inl h
        · rw [decide_eq_false_iff_not] at h
          refine .inr ?_
          rw [decide_eq_false_iff_not]
          omega
    · show (!filtersV m22 m24) = false
      unfold filtersV at e4 ⊢
      simp only [Bool.not_eq_false', Bool.and_eq_true, Bool.not_eq_true'] at e4 ⊢
      exact ⟨any_less h24 e4.1, any_less h22 e4.2⟩
    · unfold qualV at e5 ⊢
      simp only [Bool.not_eq_false', Bool.and_eq_true] at e5 ⊢
      exact ⟨e5.1, e5.2.1, all_less h22 e5.2.2.1, e5.2.2.2⟩
    · simp only [Bool.or_eq_false_iff, decide_eq_false_iff_not] at e7 ⊢
      refine ⟨e7.1, e7.2.1, by omega⟩
    · show ((decide (0 < bits BinOp.and IntKind.i64 p.h 16) && ((m22.length : Int) == 0)) || ((decide (0 < bits BinOp.and IntKind.i64 p.h 32) && ((p.l23.length : Int) == 0)) || (decide (0 < bits BinOp.and IntKind.i64 p.h 64) && ((m24.length : Int) == 0)))) = false
      simp only [Bool.or_eq_false_iff, Bool.and_eq_false_iff, beq_eq_false_iff_ne, ne_eq] at e8 ⊢
      obtain ⟨g1, g2, g3⟩ := e8
      refine ⟨?_, g2, ?_⟩
      · rcases g1 with h | h
        · exact .inl h
        · exact .inr (by omega)
      · rcases g3 with h | h
        · exact .inl h
        · exact .inr (by omega)
  · unfold P.sum at hs ⊢
    show (p.a4.size : Int) + p.a6.size + p.l7.length + p.a11.size + p.l13.length + p.a17.size + p.l18.length + p.l23.length + sumA m22 + sumT m24 ≤ 900000
    omega
theorem qos_law {p : P} (hc : p.check = 0) (h3 : p.a0 = 3) (h19 : 0 < p.a19) : p.a19 ≤ 2 ∧ ({ p with a19 := 3 - p.a19 } : P).check = 0 := by
  obtain ⟨⟨k1, k2⟩, e1, e2, e3, e4, e5, e6, e7, e8, e9⟩ := (check0 p).1 hc
  unfold qualV at e5
  simp only [Bool.not_eq_false', Bool.and_eq_true] at e5
  have hq : p.a19 ≤ 2 := by
    have := e5.2.1
    unfold isQ at this
    simp only [Bool.and_eq_true, decide_eq_true_eq] at this
    exact this.2
  have hp4 : (bits BinOp.and IntKind.i64 p.h 4 == 0) = false := by unfold P.h; rw [h3]; decide
  have n1 : numberedV p.a0 p.a19 = true := by unfold numberedV; rw [if_pos h3]; simp; omega
  have n2 : numberedV p.a0 (3 - p.a19) = true := by unfold numberedV; rw [if_pos h3]; simp; omega
  have hl : ({ p with a19 := 3 - p.a19 } : P).len = p.len := by
    show lenV _ _ _ (numberedV p.a0 (3 - p.a19)) _ _ _ _ _ _ _ _ _ _ _ _ _ = lenV _ _ _ (numberedV p.a0 p.a19) _ _ _ _ _ _ _ _ _ _ _ _ _
    rw [n1, n2]
    rfl
  refine ⟨hq, ?_⟩
  rw [check0]
  refine ⟨⟨k1, k2⟩, ?_, e2, e3, e4, ?_, ?_, ?_, e8, ?_⟩
  · rw [← e1]
    show (P.foreign _ || _) = (P.foreign _ || _)
    congr 1
    unfold P.foreign foreignV
    show (_ || ((bits BinOp.and IntKind.i64 p.h 4 == 0) && _) || (!numberedV p.a0 (3 - p.a19) && _) || _ || _ || _) = (_ || ((bits BinOp.and IntKind.i64 p.h 4 == 0) && _) || (!numberedV p.a0 p.a19 && _) || _ || _ || _)
    rw [hp4, n1, n2]
    rfl
  · show (!(isQ p.a8 && (isQ (3 - p.a19) && (p.l22.all (fun a => isQ a.f1) && p.l23.all codeV)))) = false
    have hi : isQ (3 - p.a19) = true := by unfold isQ; simp only [Bool.and_eq_true, decide_eq_true_eq]; omega
    rw [hi]
    simp only [Bool.not_eq_false', Bool.and_eq_true]
    exact ⟨e5.1, trivial, e5.2.2⟩
  · show (numberedV p.a0 (3 - p.a19) && _) = false
    rw [n2, ← n1]; exact e6
  · show (_ || (_ || decide (268435455 < P.len _))) = false
    rw [hl]; exact e7
  · show ((p.a12 && !p.a10) || ((p.a16 && (3 - p.a19 == 0)) || (p.a14 && (p.a15 != 0)))) = false
    have h1 : (p.a19 == 0) = false := by simp; omega
    have h2 : (3 - p.a19 == 0) = false := by simp; omega
    rw [h1] at e9; rw [h2]; exact e9
end Go.Proofs.YtipliohgnaoblaaDoor.Pk
