/- What the reference tells of a packet is what the program tells. -/
import Derived.Test.YtndhkgfeknkfdaaGreatDoorRtx
import Derived.Test.YtndhkgfeknkfdaaGreatDoorRfl
import Derived.Test.YtndhkgfeknkfdaaGreatDoorLf
namespace Go.Proofs.YtndhkgfeknkfdaaGreatDoor.Pk
open Go.RowKit Go.Proofs.YtndhkgfeknkfdaaGreatDoor.Giv Go.Proofs.YtndhkgfeknkfdaaGreatDoorW.PrintWords Go.Proofs.YtndhkgfeknkfdaaGreatDoorW.PrintLast Go.Proofs.YtndhkgfeknkfdaaGreatDoorW.PrintMore Go.Proofs.YtndhkgfeknkfdaaGreatDoor.MPacketChecks
set_option linter.unusedVariables false
set_option linter.unusedSimpArgs false
set_option maxHeartbeats 8000000
set_option maxRecDepth 100000
theorem nums_nil (l : List Int) : ((strOfNums l).toList == (strOfNums []).toList) = decide ((l.length : Int) = 0) := by
  rw [Go.Lib.strOfNums_toList, Go.Lib.strOfNums_toList]
  cases l with
  | nil => simp
  | cons x l => rw [decide_eq_false (by rw [List.length_cons]; omega)]; simp [Go.Lib.bytesOf]
theorem zero_some (t : ByteArray) (l : List Int) (q : Int) (r : Bool) : crierref2_zeroMessage.f t l q r = some (smV t l q r) := by
  unfold crierref2_zeroMessage.f smV
  rw [nums_nil]
  by_cases h1 : t.toList = ([] : List UInt8)
  · by_cases h2 : (l.length : Int) = 0
    · by_cases h3 : q = 0
      · rw [if_pos h1, if_pos h2, if_pos h3, h1, h3, h2]; cases r <;> rfl
      · rw [if_pos h1, if_pos h2, if_neg h3]; simp [h3]
    · rw [if_pos h1, if_neg h2]; simp; intro _ _ _ e; subst e; exact h2 rfl
  · rw [if_neg h1]; simp [h1]
def P.rfo (p : P) : Bool := ((!(p.a0 == 1) && ((p.a1 != 0) || (p.a2 || ((p.a3 != 0) || ((p.a4.toList != ([] : List UInt8)) || (p.a5 || (p.a10 || p.a12))))))) || ((!((p.a0 == 1) && p.a5) && !(smV p.a6 p.l7 p.a8 p.a9)) || ((!((p.a0 == 1) && p.a10) && (p.a11.toList != ([] : List UInt8))) || (!((p.a0 == 1) && p.a12) && decide (0 < (p.l13.length : Int))))) || (!(p.a0 == 2) && (p.a14 || (p.a15 != 0))) || (!(p.a0 == 3) && (p.a16 || !(smV p.a17 p.l18 p.a19 p.a20))) || ((!(numberedV p.a0 p.a19) && (p.a21 != 0)) || ((!(p.a0 == 8) && decide (0 < (p.l22.length : Int))) || ((!(p.a0 == 9) && decide (0 < (p.l23.length : Int))) || (!(p.a0 == 10) && decide (0 < (p.l24.length : Int)))))))
def P.rtp (p : P) : Bool := !((p.a0 == 1) && (p.a5 && (topV p.a6 != 0))) && !((p.a0 == 3) && (topV p.a17 != 0))
def P.rql (p : P) : Bool := !((p.a0 == 1) && (p.a5 && !isQ p.a8)) && (!((p.a0 == 3) && !isQ p.a19) && (p.l22.all (fun a => isQ a.f1) && p.l23.all codeV))
def P.rck (p : P) : Int := if (decide (p.a0 < 1) || decide (14 < p.a0)) = true then 20 else checkV (p.rfo || (!(decide (0 ≤ p.a1) && decide (p.a1 ≤ 255)) || (!(decide (0 ≤ p.a15) && decide (p.a15 ≤ 255)) || !(decide (0 ≤ p.a3) && decide (p.a3 ≤ 65535))))) (!txtV p.a4 || !txtV p.a11) (!p.rtp) (!filtersV p.l22 p.l24) (!p.rql) (numberedV p.a0 p.a19 && (decide (p.a21 < 1) || decide (65535 < p.a21))) (decide (65535 < (p.l7.length : Int)) || (decide (65535 < (p.l13.length : Int)) || decide (268435455 < partV (numberedV p.a0 p.a19) (midV p.a0 p.a5 p.a10 p.a12 p.a4.size p.a6.size p.l7.length p.a11.size p.l13.length p.a17.size p.l18.length p.l22 p.l24 p.l23.length) 0))) (((p.a0 == 8) && ((p.l22.length : Int) == 0)) || (((p.a0 == 9) && ((p.l23.length : Int) == 0)) || ((p.a0 == 10) && ((p.l24.length : Int) == 0)))) ((p.a12 && !p.a10) || ((p.a16 && (p.a19 == 0)) || (p.a14 && (p.a15 != 0))))
theorem num_some (p : P) : crierref2_numbered.f p.a0 p.a1 p.a2 p.a3 p.a4 p.a5 p.a6 p.l7 p.a8 p.a9 p.a10 p.a11 p.a12 p.l13 p.a14 p.a15 p.a16 p.a17 p.l18 p.a19 p.a20 p.a21 p.l22 p.l23 p.l24 = some (numberedV p.a0 p.a19) := by
  unfold crierref2_numbered.f numberedV
  by_cases h3 : p.a0 = 3
  · rw [if_pos h3, if_pos h3]
  · rw [if_neg h3, if_neg h3]
    have e : ∀ {b c : Bool}, b = c → some b = some c := fun h => congrArg some h
    repeat' split
    all_goals (refine e ?_; first | (rw [eq_comm, decide_eq_true_eq]; omega) | (rw [eq_comm, decide_eq_false_iff_not]; omega))
theorem text_some5 (s : ByteArray) (hs : s.size ≤ 1000000) (k : Nat) (hk : 20000000 < k) : crierref5_Text.f k s = some (txtV s) := by
  rw [rText s hs k (by omega)]
  refine congrArg some ?_
  unfold txtV
  have := wcode_ok s
  cases h : Cr.isText (Cr.bl s) with
  | true => rw [h] at this; rw [this.2 rfl]; rfl
  | false => rw [h] at this; rw [beq_eq_false_iff_ne.2 (fun e => by cases this.1 e)]
theorem top_ok (s : ByteArray) : topV s = 0 ↔ Cr.isTopic (Cr.bl s) = true := ct_ok s
theorem check_some5 (s : ByteArray) (hs : s.size ≤ 1000000) (k : Nat) (hk : 20000000 < k) : ∃ c, crierref5_Check.f k s = some c ∧ (c != 0) = (topV s != 0) := by
  obtain ⟨c, h1, h2⟩ := rCheck s hs k hk
  refine ⟨c, h1, ?_⟩
  rw [← top_ok] at h2
  by_cases h : topV s = 0
  · rw [h, h2.2 h]
  · rw [bne_iff_ne.2 h, bne_iff_ne.2 (fun e => h (h2.1 e))]
theorem if_bne {α : Type} (c : Int) (x y : α) : (if c = 0 then x else y) = (if (c != 0) = true then y else x) := by
  by_cases h : c = 0 <;> simp [h]
theorem topics_some (p : P) (h1 : p.a6.size ≤ 1000000) (h2 : p.a17.size ≤ 1000000) (k : Nat) (hk : 20000000 < k) : crierref2_topics.f k p.a0 p.a1 p.a2 p.a3 p.a4 p.a5 p.a6 p.l7 p.a8 p.a9 p.a10 p.a11 p.a12 p.l13 p.a14 p.a15 p.a16 p.a17 p.l18 p.a19 p.a20 p.a21 p.l22 p.l23 p.l24 = some p.rtp := by
  unfold crierref2_topics.f P.rtp
  obtain ⟨c, e1, f1⟩ := check_some5 p.a6 h1 k hk
  obtain ⟨d, e2, f2⟩ := check_some5 p.a17 h2 k hk
  rw [e1, e2]
  simp only [Option.bind_some, if_bne, f1, f2]
  by_cases k1 : p.a0 = 1
  · rw [if_pos k1]
    have k3 : ¬ p.a0 = 3 := by omega
    rw [if_neg k3]
    simp only [k1]
    cases p.a5 <;> cases (topV p.a6 != 0) <;> rfl
  · rw [if_neg k1]
    by_cases k3 : p.a0 = 3
    · rw [if_pos k3]; simp only [k3]; cases (topV p.a17 != 0) <;> rfl
    · rw [if_neg k3, beq_eq_false_iff_ne.2 k1, beq_eq_false_iff_ne.2 k3]; rfl
theorem within_sm (n m : Int) : crierref2_within.f n m = some (decide (0 ≤ n) && decide (n ≤ m)) := by
  unfold crierref2_within.f
  by_cases h : n ≥ 0
  · rw [if_pos h, decide_eq_true (show 0 ≤ n from h)]; rfl
  · rw [if_neg h, decide_eq_false (show ¬ 0 ≤ n from h)]; rfl
theorem withinQ (n : Int) : crierref2_within.f n 2 = some (isQ n) := within_sm n 2
theorem ckF_ok (s : ByteArray) : ckF s = 0 ↔ Cr.isFilter (Cr.bl s) = true := by
  unfold ckF Cr.isFilter
  by_cases h : txt s = 0
  · rw [if_pos h]
    have := (txt_ok s).1 h
    have h1 : (Cr.bl s).isEmpty = false := by cases hb : Cr.bl s with
      | nil => exact absurd hb this.1
      | cons a b => rfl
    by_cases h2 : Cr.okF (Cr.levels (Cr.bl s)) = true
    · simp [h2, h1, this.2]
    · simp [h2, h1, this.2]
  · rw [if_neg h]
    have := fun e => h ((txt_ok s).2 e)
    constructor
    · intro e; exact absurd e h
    · intro e
      simp only [Bool.and_eq_true, Bool.not_eq_true'] at e
      exact absurd ⟨fun z => by rw [z] at e; simp at e, e.1.2⟩ this
theorem cf_some5 (s : ByteArray) (hs : s.size ≤ 1000000) (k : Nat) (hk : 20000000 < k) : ∃ c, crierref5_CheckFilter.f k s = some c ∧ (c != 0) = badF s := by
  obtain ⟨c, h1, h2⟩ := rCF s hs k hk
  refine ⟨c, h1, ?_⟩
  rw [← ckF_ok] at h2
  unfold badF
  by_cases h : ckF s = 0
  · rw [h, h2.2 h]
  · rw [bne_iff_ne.2 h, bne_iff_ne.2 (fun e => h (h2.1 e))]
theorem rdOf_at (l : List ByteArray) (i : Int) (h0 : 0 ≤ i) (h1 : i < l.length) : l.drop i.toNat = rdOf ByteArray.empty l i :: l.drop (i + 1).toNat := drop_at l ByteArray.empty i h0 h1
theorem rdA_at (l : List S82) (i : Int) (h0 : 0 ≤ i) (h1 : i < l.length) : l.drop i.toNat = rd_T82 l i :: l.drop (i + 1).toNat := drop_at l z82 i h0 h1
theorem fl1 (p : P) (hn : (p.l24.length : Int) ≤ 1125899906842624) (hs : ∀ y ∈ p.l24, y.size ≤ 1000000) (d : Nat) : ∀ (k : Nat) (i : Int), 0 ≤ i → i ≤ p.l24.length → (p.l24.length : Int) - i = d → 20000001 + d < k →
    crierref2_filters.l1 k i p.a0 p.a1 p.a2 p.a3 p.a4 p.a5 p.a6 p.l7 p.a8 p.a9 p.a10 p.a11 p.a12 p.l13 p.a14 p.a15 p.a16 p.a17 p.l18 p.a19 p.a20 p.a21 p.l22 p.l23 p.l24 = some ((p.l24.drop i.toNat).all (fun y => !badF y)) := by
  induction d with
  | zero =>
    intro k i h0 h1 hd hk
    obtain ⟨k, rfl⟩ : ∃ m, k = m + 1 := ⟨k - 1, by omega⟩
    rw [crierref2_filters.l1, if_neg (by omega), List.drop_of_length_le (by omega)]; rfl
  | succ d ih =>
    intro k i h0 h1 hd hk
    obtain ⟨k, rfl⟩ : ∃ m, k = m + 1 := ⟨k - 1, by omega⟩
    have hlt : i < (p.l24.length : Int) := by omega
    have hm : rdOf ByteArray.empty p.l24 i ∈ p.l24 := List.mem_of_mem_drop (i := i.toNat) (by rw [rdOf_at p.l24 i h0 hlt]; exact List.mem_cons_self)
    obtain ⟨c, e1, e2⟩ := cf_some5 _ (hs _ hm) k (by omega)
    rw [crierref2_filters.l1, if_pos hlt, if_pos h0, e1, wrap_up h0 hlt hn, ih k (i + 1) (by omega) (by omega) (by omega) (by omega), rdOf_at p.l24 i h0 hlt]
    simp only [Option.bind_some, if_bne, e2, List.all_cons]
    cases badF (rdOf ByteArray.empty p.l24 i) <;> simp
theorem fl0 (p : P) (hn : (p.l24.length : Int) ≤ 1125899906842624) (hs : ∀ y ∈ p.l24, y.size ≤ 1000000) (hm : (p.l22.length : Int) ≤ 1125899906842624) (ht : ∀ y ∈ p.l22, y.f0.size ≤ 1000000) (d : Nat) : ∀ (k : Nat) (i : Int), 0 ≤ i → i ≤ p.l22.length → (p.l22.length : Int) - i = d → 20000003 + p.l24.length + d < k →
    crierref2_filters.l0 k i p.a0 p.a1 p.a2 p.a3 p.a4 p.a5 p.a6 p.l7 p.a8 p.a9 p.a10 p.a11 p.a12 p.l13 p.a14 p.a15 p.a16 p.a17 p.l18 p.a19 p.a20 p.a21 p.l22 p.l23 p.l24 = some ((p.l22.drop i.toNat).all (fun y => !badF y.f0) && p.l24.all (fun y => !badF y)) := by
  induction d with
  | zero =>
    intro k i h0 h1 hd hk
    obtain ⟨k, rfl⟩ : ∃ m, k = m + 1 := ⟨k - 1, by omega⟩
    rw [crierref2_filters.l0, if_neg (by omega), List.drop_of_length_le (by omega), fl1 p hn hs p.l24.length k 0 (by omega) (by omega) (by omega) (by omega)]; rfl
  | succ d ih =>
    intro k i h0 h1 hd hk
    obtain ⟨k, rfl⟩ : ∃ m, k = m + 1 := ⟨k - 1, by omega⟩
    have hlt : i < (p.l22.length : Int) := by omega
    have hm_ : rd_T82 p.l22 i ∈ p.l22 := List.mem_of_mem_drop (i := i.toNat) (by rw [rdA_at p.l22 i h0 hlt]; exact List.mem_cons_self)
    obtain ⟨c, e1, e2⟩ := cf_some5 _ (ht _ hm_) k (by omega)
    rw [crierref2_filters.l0, if_pos hlt, if_pos h0, e1, wrap_up h0 hlt hm, ih k (i + 1) (by omega) (by omega) (by omega) (by omega), rdA_at p.l22 i h0 hlt]
    simp only [Option.bind_some, if_bne, e2, List.all_cons]
    cases badF (rd_T82 p.l22 i).f0 <;> simp
theorem any_all {α : Type} (f : α → Bool) (l : List α) : l.all (fun y => !f y) = !l.any f := by
  induction l with
  | nil => rfl
  | cons x l ih => rw [List.all_cons, List.any_cons, ih]; cases f x <;> rfl
theorem filters_some (p : P) (hn : (p.l24.length : Int) ≤ 1125899906842624) (hs : ∀ y ∈ p.l24, y.size ≤ 1000000) (hm : (p.l22.length : Int) ≤ 1125899906842624) (ht : ∀ y ∈ p.l22, y.f0.size ≤ 1000000) :
    crierref2_filters.f (20000004 + p.l24.length + p.l22.length) p.a0 p.a1 p.a2 p.a3 p.a4 p.a5 p.a6 p.l7 p.a8 p.a9 p.a10 p.a11 p.a12 p.l13 p.a14 p.a15 p.a16 p.a17 p.l18 p.a19 p.a20 p.a21 p.l22 p.l23 p.l24 = some (filtersV p.l22 p.l24) := by
  unfold crierref2_filters.f
  rw [fl0 p hn hs hm ht p.l22.length _ 0 (by omega) (by omega) (by omega) (by omega)]
  refine congrArg some ?_
  rw [show (0 : Int).toNat = 0 from rfl, List.drop_zero]
  unfold filtersV
  rw [any_all (fun y : S82 => badF y.f0), any_all (fun y : ByteArray => badF y)]
  exact Bool.and_comm _ _
theorem rql1 (p : P) (hn : (p.l23.length : Int) ≤ 1125899906842624) (d : Nat) : ∀ (k : Nat) (i : Int), 0 ≤ i → i ≤ p.l23.length → (p.l23.length : Int) - i = d → d < k →
    crierref2_qualities.l1 k i p.a0 p.a1 p.a2 p.a3 p.a4 p.a5 p.a6 p.l7 p.a8 p.a9 p.a10 p.a11 p.a12 p.l13 p.a14 p.a15 p.a16 p.a17 p.l18 p.a19 p.a20 p.a21 p.l22 p.l23 p.l24 = some ((p.l23.drop i.toNat).all codeV) := by
  induction d with
  | zero =>
    intro k i h0 h1 hd hk
    obtain ⟨k, rfl⟩ : ∃ m, k = m + 1 := ⟨k - 1, by omega⟩
    rw [crierref2_qualities.l1, if_neg (by omega), List.drop_of_length_le (by omega)]; rfl
  | succ d ih =>
    intro k i h0 h1 hd hk
    obtain ⟨k, rfl⟩ : ∃ m, k = m + 1 := ⟨k - 1, by omega⟩
    have hlt : i < (p.l23.length : Int) := by omega
    rw [crierref2_qualities.l1, if_pos hlt, if_pos h0, withinQ, wrap_up h0 hlt hn, ih k (i + 1) (by omega) (by omega) (by omega) (by omega), show p.l23.drop i.toNat = rd p.l23 i :: p.l23.drop (i + 1).toNat from drop_at p.l23 0 i h0 hlt]
    simp only [Option.bind_some, List.all_cons, codeV]
    by_cases hq : isQ (rd p.l23 i) = true
    · rw [if_pos hq, hq]; rfl
    · rw [if_neg hq, Bool.eq_false_iff.mpr hq]
      by_cases h8 : rd p.l23 i = 128
      · rw [if_pos h8, beq_iff_eq.2 h8]; rfl
      · rw [if_neg h8, beq_eq_false_iff_ne.2 h8]; rfl
theorem rql0 (p : P) (hn : (p.l23.length : Int) ≤ 1125899906842624) (hm : (p.l22.length : Int) ≤ 1125899906842624) (d : Nat) : ∀ (k : Nat) (i : Int), 0 ≤ i → i ≤ p.l22.length → (p.l22.length : Int) - i = d → p.l23.length + 1 + d < k →
    crierref2_qualities.l0 k i p.a0 p.a1 p.a2 p.a3 p.a4 p.a5 p.a6 p.l7 p.a8 p.a9 p.a10 p.a11 p.a12 p.l13 p.a14 p.a15 p.a16 p.a17 p.l18 p.a19 p.a20 p.a21 p.l22 p.l23 p.l24 = some ((p.l22.drop i.toNat).all (fun y => isQ y.f1) && p.l23.all codeV) := by
  induction d with
  | zero =>
    intro k i h0 h1 hd hk
    obtain ⟨k, rfl⟩ : ∃ m, k = m + 1 := ⟨k - 1, by omega⟩
    rw [crierref2_qualities.l0, if_neg (by omega), List.drop_of_length_le (by omega), rql1 p hn p.l23.length k 0 (by omega) (by omega) (by omega) (by omega)]; rfl
  | succ d ih =>
    intro k i h0 h1 hd hk
    obtain ⟨k, rfl⟩ : ∃ m, k = m + 1 := ⟨k - 1, by omega⟩
    have hlt : i < (p.l22.length : Int) := by omega
    rw [crierref2_qualities.l0, if_pos hlt, if_pos h0, withinQ, wrap_up h0 hlt hm, ih k (i + 1) (by omega) (by omega) (by omega) (by omega), rdA_at p.l22 i h0 hlt]
    simp only [Option.bind_some, List.all_cons]
    cases isQ (rd_T82 p.l22 i).f1 <;> rfl
theorem qualities_some (p : P) (hn : (p.l23.length : Int) ≤ 1125899906842624) (hm : (p.l22.length : Int) ≤ 1125899906842624) :
    crierref2_qualities.f (p.l23.length + 3 + p.l22.length) p.a0 p.a1 p.a2 p.a3 p.a4 p.a5 p.a6 p.l7 p.a8 p.a9 p.a10 p.a11 p.a12 p.l13 p.a14 p.a15 p.a16 p.a17 p.l18 p.a19 p.a20 p.a21 p.l22 p.l23 p.l24 = some p.rql := by
  unfold crierref2_qualities.f P.rql
  have hj : ∀ b, crierref2_qualities.j0 (p.l23.length + 3 + p.l22.length) b p.a0 p.a1 p.a2 p.a3 p.a4 p.a5 p.a6 p.l7 p.a8 p.a9 p.a10 p.a11 p.a12 p.l13 p.a14 p.a15 p.a16 p.a17 p.l18 p.a19 p.a20 p.a21 p.l22 p.l23 p.l24 = some (!b && (p.l22.all (fun a => isQ a.f1) && p.l23.all codeV)) := by
    intro b
    rw [show p.l23.length + 3 + p.l22.length = (p.l23.length + 2 + p.l22.length) + 1 by omega, crierref2_qualities.j0]
    cases b
    · rw [if_neg (by decide), rql0 p hn hm p.l22.length _ 0 (by omega) (by omega) (by omega) (by omega)]; rfl
    · rfl
  simp only [withinQ, Option.bind_some, hj]
  by_cases k1 : p.a0 = 1
  · have k3 : ¬ p.a0 = 3 := by omega
    rw [if_pos k1, if_neg k3, beq_iff_eq.2 k1, beq_eq_false_iff_ne.2 k3]
    cases p.a5 <;> cases isQ p.a8 <;> rfl
  · rw [if_neg k1, beq_eq_false_iff_ne.2 k1]
    by_cases k3 : p.a0 = 3
    · rw [if_pos k3, beq_iff_eq.2 k3]; cases isQ p.a19 <;> rfl
    · rw [if_neg k3, beq_eq_false_iff_ne.2 k3]; rfl
theorem wi_not (x m : Int) : (!(decide (0 ≤ x) && decide (x ≤ m))) = (decide (x < 0) || decide (m < x)) := by
  rw [Bool.not_and, ← decide_not, ← decide_not]
  congr 1 <;> (refine decide_eq_decide.2 ?_; omega)
theorem rfo_eq (p : P) (h1 : ¬ p.a0 < 1) (h2 : ¬ 14 < p.a0) : p.rfo = p.foreign := by
  unfold P.rfo P.foreign foreignV P.h
  rcases Kin.kind_cases h1 h2 with h | h | h | h | h | h | h | h | h | h | h | h | h | h
  · rw [h]; have b0_ : (bits BinOp.and IntKind.i64 (hasL.getD (Int.toNat 1) 0) 1 == 0) = false := (by decide); have b1_ : (bits BinOp.and IntKind.i64 (hasL.getD (Int.toNat 1) 0) 2 == 0) = true := (by decide); have b2_ : (bits BinOp.and IntKind.i64 (hasL.getD (Int.toNat 1) 0) 4 == 0) = true := (by decide); have b3_ : (bits BinOp.and IntKind.i64 (hasL.getD (Int.toNat 1) 0) 16 == 0) = true := (by decide); have b4_ : (bits BinOp.and IntKind.i64 (hasL.getD (Int.toNat 1) 0) 32 == 0) = true := (by decide); have b5_ : (bits BinOp.and IntKind.i64 (hasL.getD (Int.toNat 1) 0) 64 == 0) = true := (by decide); have b6_ : ((1 : Int) == 1) = true := (by decide); have b7_ : ((1 : Int) == 2) = false := (by decide); have b8_ : ((1 : Int) == 3) = false := (by decide); have b9_ : ((1 : Int) == 8) = false := (by decide); have b10_ : ((1 : Int) == 9) = false := (by decide); have b11_ : ((1 : Int) == 10) = false := (by decide); simp only [b0_, b1_, b2_, b3_, b4_, b5_, b6_, b7_, b8_, b9_, b10_, b11_]; cases p.a5 <;> cases p.a10 <;> cases p.a12 <;> simp only [Bool.or_assoc, Bool.true_and, Bool.false_and, Bool.not_true, Bool.not_false, Bool.true_or, Bool.or_true, Bool.false_or, Bool.or_false]
  · rw [h]; have b0_ : (bits BinOp.and IntKind.i64 (hasL.getD (Int.toNat 2) 0) 1 == 0) = true := (by decide); have b1_ : (bits BinOp.and IntKind.i64 (hasL.getD (Int.toNat 2) 0) 2 == 0) = false := (by decide); have b2_ : (bits BinOp.and IntKind.i64 (hasL.getD (Int.toNat 2) 0) 4 == 0) = true := (by decide); have b3_ : (bits BinOp.and IntKind.i64 (hasL.getD (Int.toNat 2) 0) 16 == 0) = true := (by decide); have b4_ : (bits BinOp.and IntKind.i64 (hasL.getD (Int.toNat 2) 0) 32 == 0) = true := (by decide); have b5_ : (bits BinOp.and IntKind.i64 (hasL.getD (Int.toNat 2) 0) 64 == 0) = true := (by decide); have b6_ : ((2 : Int) == 1) = false := (by decide); have b7_ : ((2 : Int) == 2) = true := (by decide); have b8_ : ((2 : Int) == 3) = false := (by decide); have b9_ : ((2 : Int) == 8) = false := (by decide); have b10_ : ((2 : Int) == 9) = false := (by decide); have b11_ : ((2 : Int) == 10) = false := (by decide); simp only [b0_, b1_, b2_, b3_, b4_, b5_, b6_, b7_, b8_, b9_, b10_, b11_]; cases p.a5 <;> cases p.a10 <;> cases p.a12 <;> simp only [Bool.or_assoc, Bool.true_and, Bool.false_and, Bool.not_true, Bool.not_false, Bool.true_or, Bool.or_true, Bool.false_or, Bool.or_false]
  · rw [h]; have b0_ : (bits BinOp.and IntKind.i64 (hasL.getD (Int.toNat 3) 0) 1 == 0) = true := (by decide); have b1_ : (bits BinOp.and IntKind.i64 (hasL.getD (Int.toNat 3) 0) 2 == 0) = true := (by decide); have b2_ : (bits BinOp.and IntKind.i64 (hasL.getD (Int.toNat 3) 0) 4 == 0) = false := (by decide); have b3_ : (bits BinOp.and IntKind.i64 (hasL.getD (Int.toNat 3) 0) 16 == 0) = true := (by decide); have b4_ : (bits BinOp.and IntKind.i64 (hasL.getD (Int.toNat 3) 0) 32 == 0) = true := (by decide); have b5_ : (bits BinOp.and IntKind.i64 (hasL.getD (Int.toNat 3) 0) 64 == 0) = true := (by decide); have b6_ : ((3 : Int) == 1) = false := (by decide); have b7_ : ((3 : Int) == 2) = false := (by decide); have b8_ : ((3 : Int) == 3) = true := (by decide); have b9_ : ((3 : Int) == 8) = false := (by decide); have b10_ : ((3 : Int) == 9) = false := (by decide); have b11_ : ((3 : Int) == 10) = false := (by decide); simp only [b0_, b1_, b2_, b3_, b4_, b5_, b6_, b7_, b8_, b9_, b10_, b11_]; cases p.a5 <;> cases p.a10 <;> cases p.a12 <;> simp only [Bool.or_assoc, Bool.true_and, Bool.false_and, Bool.not_true, Bool.not_false, Bool.true_or, Bool.or_true, Bool.false_or, Bool.or_false]
  · rw [h]; have b0_ : (bits BinOp.and IntKind.i64 (hasL.getD (Int.toNat 4) 0) 1 == 0) = true := (by decide); have b1_ : (bits BinOp.and IntKind.i64 (hasL.getD (Int.toNat 4) 0) 2 == 0) = true := (by decide); have b2_ : (bits BinOp.and IntKind.i64 (hasL.getD (Int.toNat 4) 0) 4 == 0) = true := (by decide); have b3_ : (bits BinOp.and IntKind.i64 (hasL.getD (Int.toNat 4) 0) 16 == 0) = true := (by decide); have b4_ : (bits BinOp.and IntKind.i64 (hasL.getD (Int.toNat 4) 0) 32 == 0) = true := (by decide); have b5_ : (bits BinOp.and IntKind.i64 (hasL.getD (Int.toNat 4) 0) 64 == 0) = true := (by decide); have b6_ : ((4 : Int) == 1) = false := (by decide); have b7_ : ((4 : Int) == 2) = false := (by decide); have b8_ : ((4 : Int) == 3) = false := (by decide); have b9_ : ((4 : Int) == 8) = false := (by decide); have b10_ : ((4 : Int) == 9) = false := (by decide); have b11_ : ((4 : Int) == 10) = false := (by decide); simp only [b0_, b1_, b2_, b3_, b4_, b5_, b6_, b7_, b8_, b9_, b10_, b11_]; cases p.a5 <;> cases p.a10 <;> cases p.a12 <;> simp only [Bool.or_assoc, Bool.true_and, Bool.false_and, Bool.not_true, Bool.not_false, Bool.true_or, Bool.or_true, Bool.false_or, Bool.or_false]
  · rw [h]; have b0_ : (bits BinOp.and IntKind.i64 (hasL.getD (Int.toNat 5) 0) 1 == 0) = true := (by decide); have b1_ : (bits BinOp.and IntKind.i64 (hasL.getD (Int.toNat 5) 0) 2 == 0) = true := (by decide); have b2_ : (bits BinOp.and IntKind.i64 (hasL.getD (Int.toNat 5) 0) 4 == 0) = true := (by decide); have b3_ : (bits BinOp.and IntKind.i64 (hasL.getD (Int.toNat 5) 0) 16 == 0) = true := (by decide); have b4_ : (bits BinOp.and IntKind.i64 (hasL.getD (Int.toNat 5) 0) 32 == 0) = true := (by decide); have b5_ : (bits BinOp.and IntKind.i64 (hasL.getD (Int.toNat 5) 0) 64 == 0) = true := (by decide); have b6_ : ((5 : Int) == 1) = false := (by decide); have b7_ : ((5 : Int) == 2) = false := (by decide); have b8_ : ((5 : Int) == 3) = false := (by decide); have b9_ : ((5 : Int) == 8) = false := (by decide); have b10_ : ((5 : Int) == 9) = false := (by decide); have b11_ : ((5 : Int) == 10) = false := (by decide); simp only [b0_, b1_, b2_, b3_, b4_, b5_, b6_, b7_, b8_, b9_, b10_, b11_]; cases p.a5 <;> cases p.a10 <;> cases p.a12 <;> simp only [Bool.or_assoc, Bool.true_and, Bool.false_and, Bool.not_true, Bool.not_false, Bool.true_or, Bool.or_true, Bool.false_or, Bool.or_false]
  · rw [h]; have b0_ : (bits BinOp.and IntKind.i64 (hasL.getD (Int.toNat 6) 0) 1 == 0) = true := (by decide); have b1_ : (bits BinOp.and IntKind.i64 (hasL.getD (Int.toNat 6) 0) 2 == 0) = true := (by decide); have b2_ : (bits BinOp.and IntKind.i64 (hasL.getD (Int.toNat 6) 0) 4 == 0) = true := (by decide); have b3_ : (bits BinOp.and IntKind.i64 (hasL.getD (Int.toNat 6) 0) 16 == 0) = true := (by decide); have b4_ : (bits BinOp.and IntKind.i64 (hasL.getD (Int.toNat 6) 0) 32 == 0) = true := (by decide); have b5_ : (bits BinOp.and IntKind.i64 (hasL.getD (Int.toNat 6) 0) 64 == 0) = true := (by decide); have b6_ : ((6 : Int) == 1) = false := (by decide); have b7_ : ((6 : Int) == 2) = false := (by decide); have b8_ : ((6 : Int) == 3) = false := (by decide); have b9_ : ((6 : Int) == 8) = false := (by decide); have b10_ : ((6 : Int) == 9) = false := (by decide); have b11_ : ((6 : Int) == 10) = false := (by decide); simp only [b0_, b1_, b2_, b3_, b4_, b5_, b6_, b7_, b8_, b9_, b10_, b11_]; cases p.a5 <;> cases p.a10 <;> cases p.a12 <;> simp only [Bool.or_assoc, Bool.true_and, Bool.false_and, Bool.not_true, Bool.not_false, Bool.true_or, Bool.or_true, Bool.false_or, Bool.or_false]
  · rw [h]; have b0_ : (bits BinOp.and IntKind.i64 (hasL.getD (Int.toNat 7) 0) 1 == 0) = true := (by decide); have b1_ : (bits BinOp.and IntKind.i64 (hasL.getD (Int.toNat 7) 0) 2 == 0) = true := (by decide); have b2_ : (bits BinOp.and IntKind.i64 (hasL.getD (Int.toNat 7) 0) 4 == 0) = true := (by decide); have b3_ : (bits BinOp.and IntKind.i64 (hasL.getD (Int.toNat 7) 0) 16 == 0) = true := (by decide); have b4_ : (bits BinOp.and IntKind.i64 (hasL.getD (Int.toNat 7) 0) 32 == 0) = true := (by decide); have b5_ : (bits BinOp.and IntKind.i64 (hasL.getD (Int.toNat 7) 0) 64 == 0) = true := (by decide); have b6_ : ((7 : Int) == 1) = false := (by decide); have b7_ : ((7 : Int) == 2) = false := (by decide); have b8_ : ((7 : Int) == 3) = false := (by decide); have b9_ : ((7 : Int) == 8) = false := (by decide); have b10_ : ((7 : Int) == 9) = false := (by decide); have b11_ : ((7 : Int) == 10) = false := (by decide); simp only [b0_, b1_, b2_, b3_, b4_, b5_, b6_, b7_, b8_, b9_, b10_, b11_]; cases p.a5 <;> cases p.a10 <;> cases p.a12 <;> simp only [Bool.or_assoc, Bool.true_and, Bool.false_and, Bool.not_true, Bool.not_false, Bool.true_or, Bool.or_true, Bool.false_or, Bool.or_false]
  · rw [h]; have b0_ : (bits BinOp.and IntKind.i64 (hasL.getD (Int.toNat 8) 0) 1 == 0) = true := (by decide); have b1_ : (bits BinOp.and IntKind.i64 (hasL.getD (Int.toNat 8) 0) 2 == 0) = true := (by decide); have b2_ : (bits BinOp.and IntKind.i64 (hasL.getD (Int.toNat 8) 0) 4 == 0) = true := (by decide); have b3_ : (bits BinOp.and IntKind.i64 (hasL.getD (Int.toNat 8) 0) 16 == 0) = false := (by decide); have b4_ : (bits BinOp.and IntKind.i64 (hasL.getD (Int.toNat 8) 0) 32 == 0) = true := (by decide); have b5_ : (bits BinOp.and IntKind.i64 (hasL.getD (Int.toNat 8) 0) 64 == 0) = true := (by decide); have b6_ : ((8 : Int) == 1) = false := (by decide); have b7_ : ((8 : Int) == 2) = false := (by decide); have b8_ : ((8 : Int) == 3) = false := (by decide); have b9_ : ((8 : Int) == 8) = true := (by decide); have b10_ : ((8 : Int) == 9) = false := (by decide); have b11_ : ((8 : Int) == 10) = false := (by decide); simp only [b0_, b1_, b2_, b3_, b4_, b5_, b6_, b7_, b8_, b9_, b10_, b11_]; cases p.a5 <;> cases p.a10 <;> cases p.a12 <;> simp only [Bool.or_assoc, Bool.true_and, Bool.false_and, Bool.not_true, Bool.not_false, Bool.true_or, Bool.or_true, Bool.false_or, Bool.or_false]
  · rw [h]; have b0_ : (bits BinOp.and IntKind.i64 (hasL.getD (Int.toNat 9) 0) 1 == 0) = true := (by decide); have b1_ : (bits BinOp.and IntKind.i64 (hasL.getD (Int.toNat 9) 0) 2 == 0) = true := (by decide); have b2_ : (bits BinOp.and IntKind.i64 (hasL.getD (Int.toNat 9) 0) 4 == 0) = true := (by decide); have b3_ : (bits BinOp.and IntKind.i64 (hasL.getD (Int.toNat 9) 0) 16 == 0) = true := (by decide); have b4_ : (bits BinOp.and IntKind.i64 (hasL.getD (Int.toNat 9) 0) 32 == 0) = false := (by decide); have b5_ : (bits BinOp.and IntKind.i64 (hasL.getD (Int.toNat 9) 0) 64 == 0) = true := (by decide); have b6_ : ((9 : Int) == 1) = false := (by decide); have b7_ : ((9 : Int) == 2) = false := (by decide); have b8_ : ((9 : Int) == 3) = false := (by decide); have b9_ : ((9 : Int) == 8) = false := (by decide); have b10_ : ((9 : Int) == 9) = true := (by decide); have b11_ : ((9 : Int) == 10) = false := (by decide); simp only [b0_, b1_, b2_, b3_, b4_, b5_, b6_, b7_, b8_, b9_, b10_, b11_]; cases p.a5 <;> cases p.a10 <;> cases p.a12 <;> simp only [Bool.or_assoc, Bool.true_and, Bool.false_and, Bool.not_true, Bool.not_false, Bool.true_or, Bool.or_true, Bool.false_or, Bool.or_false]
  · rw [h]; have b0_ : (bits BinOp.and IntKind.i64 (hasL.getD (Int.toNat 10) 0) 1 == 0) = true := (by decide); have b1_ : (bits BinOp.and IntKind.i64 (hasL.getD (Int.toNat 10) 0) 2 == 0) = true := (by decide); have b2_ : (bits BinOp.and IntKind.i64 (hasL.getD (Int.toNat 10) 0) 4 == 0) = true := (by decide); have b3_ : (bits BinOp.and IntKind.i64 (hasL.getD (Int.toNat 10) 0) 16 == 0) = true := (by decide); have b4_ : (bits BinOp.and IntKind.i64 (hasL.getD (Int.toNat 10) 0) 32 == 0) = true := (by decide); have b5_ : (bits BinOp.and IntKind.i64 (hasL.getD (Int.toNat 10) 0) 64 == 0) = false := (by decide); have b6_ : ((10 : Int) == 1) = false := (by decide); have b7_ : ((10 : Int) == 2) = false := (by decide); have b8_ : ((10 : Int) == 3) = false := (by decide); have b9_ : ((10 : Int) == 8) = false := (by decide); have b10_ : ((10 : Int) == 9) = false := (by decide); have b11_ : ((10 : Int) == 10) = true := (by decide); simp only [b0_, b1_, b2_, b3_, b4_, b5_, b6_, b7_, b8_, b9_, b10_, b11_]; cases p.a5 <;> cases p.a10 <;> cases p.a12 <;> simp only [Bool.or_assoc, Bool.true_and, Bool.false_and, Bool.not_true, Bool.not_false, Bool.true_or, Bool.or_true, Bool.false_or, Bool.or_false]
  · rw [h]; have b0_ : (bits BinOp.and IntKind.i64 (hasL.getD (Int.toNat 11) 0) 1 == 0) = true := (by decide); have b1_ : (bits BinOp.and IntKind.i64 (hasL.getD (Int.toNat 11) 0) 2 == 0) = true := (by decide); have b2_ : (bits BinOp.and IntKind.i64 (hasL.getD (Int.toNat 11) 0) 4 == 0) = true := (by decide); have b3_ : (bits BinOp.and IntKind.i64 (hasL.getD (Int.toNat 11) 0) 16 == 0) = true := (by decide); have b4_ : (bits BinOp.and IntKind.i64 (hasL.getD (Int.toNat 11) 0) 32 == 0) = true := (by decide); have b5_ : (bits BinOp.and IntKind.i64 (hasL.getD (Int.toNat 11) 0) 64 == 0) = true := (by decide); have b6_ : ((11 : Int) == 1) = false := (by decide); have b7_ : ((11 : Int) == 2) = false := (by decide); have b8_ : ((11 : Int) == 3) = false := (by decide); have b9_ : ((11 : Int) == 8) = false := (by decide); have b10_ : ((11 : Int) == 9) = false := (by decide); have b11_ : ((11 : Int) == 10) = false := (by decide); simp only [b0_, b1_, b2_, b3_, b4_, b5_, b6_, b7_, b8_, b9_, b10_, b11_]; cases p.a5 <;> cases p.a10 <;> cases p.a12 <;> simp only [Bool.or_assoc, Bool.true_and, Bool.false_and, Bool.not_true, Bool.not_false, Bool.true_or, Bool.or_true, Bool.false_or, Bool.or_false]
  · rw [h]; have b0_ : (bits BinOp.and IntKind.i64 (hasL.getD (Int.toNat 12) 0) 1 == 0) = true := (by decide); have b1_ : (bits BinOp.and IntKind.i64 (hasL.getD (Int.toNat 12) 0) 2 == 0) = true := (by decide); have b2_ : (bits BinOp.and IntKind.i64 (hasL.getD (Int.toNat 12) 0) 4 == 0) = true := (by decide); have b3_ : (bits BinOp.and IntKind.i64 (hasL.getD (Int.toNat 12) 0) 16 == 0) = true := (by decide); have b4_ : (bits BinOp.and IntKind.i64 (hasL.getD (Int.toNat 12) 0) 32 == 0) = true := (by decide); have b5_ : (bits BinOp.and IntKind.i64 (hasL.getD (Int.toNat 12) 0) 64 == 0) = true := (by decide); have b6_ : ((12 : Int) == 1) = false := (by decide); have b7_ : ((12 : Int) == 2) = false := (by decide); have b8_ : ((12 : Int) == 3) = false := (by decide); have b9_ : ((12 : Int) == 8) = false := (by decide); have b10_ : ((12 : Int) == 9) = false := (by decide); have b11_ : ((12 : Int) == 10) = false := (by decide); simp only [b0_, b1_, b2_, b3_, b4_, b5_, b6_, b7_, b8_, b9_, b10_, b11_]; cases p.a5 <;> cases p.a10 <;> cases p.a12 <;> simp only [Bool.or_assoc, Bool.true_and, Bool.false_and, Bool.not_true, Bool.not_false, Bool.true_or, Bool.or_true, Bool.false_or, Bool.or_false]
  · rw [h]; have b0_ : (bits BinOp.and IntKind.i64 (hasL.getD (Int.toNat 13) 0) 1 == 0) = true := (by decide); have b1_ : (bits BinOp.and IntKind.i64 (hasL.getD (Int.toNat 13) 0) 2 == 0) = true := (by decide); have b2_ : (bits BinOp.and IntKind.i64 (hasL.getD (Int.toNat 13) 0) 4 == 0) = true := (by decide); have b3_ : (bits BinOp.and IntKind.i64 (hasL.getD (Int.toNat 13) 0) 16 == 0) = true := (by decide); have b4_ : (bits BinOp.and IntKind.i64 (hasL.getD (Int.toNat 13) 0) 32 == 0) = true := (by decide); have b5_ : (bits BinOp.and IntKind.i64 (hasL.getD (Int.toNat 13) 0) 64 == 0) = true := (by decide); have b6_ : ((13 : Int) == 1) = false := (by decide); have b7_ : ((13 : Int) == 2) = false := (by decide); have b8_ : ((13 : Int) == 3) = false := (by decide); have b9_ : ((13 : Int) == 8) = false := (by decide); have b10_ : ((13 : Int) == 9) = false := (by decide); have b11_ : ((13 : Int) == 10) = false := (by decide); simp only [b0_, b1_, b2_, b3_, b4_, b5_, b6_, b7_, b8_, b9_, b10_, b11_]; cases p.a5 <;> cases p.a10 <;> cases p.a12 <;> simp only [Bool.or_assoc, Bool.true_and, Bool.false_and, Bool.not_true, Bool.not_false, Bool.true_or, Bool.or_true, Bool.false_or, Bool.or_false]
  · rw [h]; have b0_ : (bits BinOp.and IntKind.i64 (hasL.getD (Int.toNat 14) 0) 1 == 0) = true := (by decide); have b1_ : (bits BinOp.and IntKind.i64 (hasL.getD (Int.toNat 14) 0) 2 == 0) = true := (by decide); have b2_ : (bits BinOp.and IntKind.i64 (hasL.getD (Int.toNat 14) 0) 4 == 0) = true := (by decide); have b3_ : (bits BinOp.and IntKind.i64 (hasL.getD (Int.toNat 14) 0) 16 == 0) = true := (by decide); have b4_ : (bits BinOp.and IntKind.i64 (hasL.getD (Int.toNat 14) 0) 32 == 0) = true := (by decide); have b5_ : (bits BinOp.and IntKind.i64 (hasL.getD (Int.toNat 14) 0) 64 == 0) = true := (by decide); have b6_ : ((14 : Int) == 1) = false := (by decide); have b7_ : ((14 : Int) == 2) = false := (by decide); have b8_ : ((14 : Int) == 3) = false := (by decide); have b9_ : ((14 : Int) == 8) = false := (by decide); have b10_ : ((14 : Int) == 9) = false := (by decide); have b11_ : ((14 : Int) == 10) = false := (by decide); simp only [b0_, b1_, b2_, b3_, b4_, b5_, b6_, b7_, b8_, b9_, b10_, b11_]; cases p.a5 <;> cases p.a10 <;> cases p.a12 <;> simp only [Bool.or_assoc, Bool.true_and, Bool.false_and, Bool.not_true, Bool.not_false, Bool.true_or, Bool.or_true, Bool.false_or, Bool.or_false]
theorem nil_of {α : Type} {l : List α} (h : decide (0 < (l.length : Int)) = false) : l = [] := by
  have := of_decide_eq_false h
  exact List.length_eq_zero_iff.1 (by omega)
theorem smV_q {t : ByteArray} {l : List Int} {q : Int} {r : Bool} (h : smV t l q r = true) : q = 0 := by
  unfold smV at h
  simp only [Bool.and_eq_true, beq_iff_eq] at h
  exact h.1.2.1
theorem rfo_facts (p : P) (h : p.rfo = false) : (p.a0 ≠ 1 → p.a5 = false) ∧ (¬ (p.a0 = 1 ∧ p.a5 = true) → p.a8 = 0) ∧ (p.a0 ≠ 3 → p.a19 = 0) ∧ (p.a0 ≠ 8 → p.l22 = []) ∧ (p.a0 ≠ 9 → p.l23 = []) ∧ (p.a0 ≠ 10 → p.l24 = []) := by
  unfold P.rfo at h
  simp only [Bool.or_eq_false_iff] at h
  obtain ⟨⟨⟨⟨g1, g2, g3, g4⟩, g5⟩, g6⟩, g7, g8, g9, g10⟩ := h
  refine ⟨fun n => ?_, fun n => ?_, fun n => ?_, fun n => ?_, fun n => ?_, fun n => ?_⟩
  · rw [beq_eq_false_iff_ne.2 n, Bool.not_false, Bool.true_and] at g1
    simp only [Bool.or_eq_false_iff] at g1
    exact g1.2.2.2.2.1
  · have e : ((p.a0 == 1) && p.a5) = false := by
      rw [Bool.eq_false_iff]; intro e
      rw [Bool.and_eq_true, beq_iff_eq] at e; exact n e
    rw [e, Bool.not_false, Bool.true_and] at g2
    exact smV_q (by simpa using g2)
  · rw [beq_eq_false_iff_ne.2 n, Bool.not_false, Bool.true_and] at g6
    rw [Bool.or_eq_false_iff] at g6
    exact smV_q (by simpa using g6.2)
  · rw [beq_eq_false_iff_ne.2 n, Bool.not_false, Bool.true_and] at g8; exact nil_of g8
  · rw [beq_eq_false_iff_ne.2 n, Bool.not_false, Bool.true_and] at g9; exact nil_of g9
  · rw [beq_eq_false_iff_ne.2 n, Bool.not_false, Bool.true_and] at g10; exact nil_of g10
theorem isQ0 : isQ 0 = true := by decide
theorem e3_eq (p : P) (h1 : ¬ p.a0 < 1) (h2 : ¬ 14 < p.a0) (h : p.rfo = false) : (!p.rtp) = ((p.a5 && (topV p.a6 != 0)) || (decide (0 < bits BinOp.and IntKind.i64 p.h 4) && (topV p.a17 != 0))) := by
  have F := (rfo_facts p h).1
  unfold P.rtp P.h
  rcases Kin.kind_cases h1 h2 with k | k | k | k | k | k | k | k | k | k | k | k | k | k
  · rw [k]; have b0_ : decide (0 < bits BinOp.and IntKind.i64 (hasL.getD (Int.toNat 1) 0) 4) = false := (by decide); have b1_ : ((1 : Int) == 1) = true := (by decide); have b2_ : ((1 : Int) == 3) = false := (by decide); simp only [b0_, b1_, b2_]; cases p.a5 <;> cases (topV p.a6 != 0) <;> cases (topV p.a17 != 0) <;> rfl
  · rw [F (by omega), k]; have b0_ : decide (0 < bits BinOp.and IntKind.i64 (hasL.getD (Int.toNat 2) 0) 4) = false := (by decide); have b1_ : ((2 : Int) == 1) = false := (by decide); have b2_ : ((2 : Int) == 3) = false := (by decide); simp only [b0_, b1_, b2_]; cases (topV p.a6 != 0) <;> cases (topV p.a17 != 0) <;> rfl
  · rw [F (by omega), k]; have b0_ : decide (0 < bits BinOp.and IntKind.i64 (hasL.getD (Int.toNat 3) 0) 4) = true := (by decide); have b1_ : ((3 : Int) == 1) = false := (by decide); have b2_ : ((3 : Int) == 3) = true := (by decide); simp only [b0_, b1_, b2_]; cases (topV p.a6 != 0) <;> cases (topV p.a17 != 0) <;> rfl
  · rw [F (by omega), k]; have b0_ : decide (0 < bits BinOp.and IntKind.i64 (hasL.getD (Int.toNat 4) 0) 4) = false := (by decide); have b1_ : ((4 : Int) == 1) = false := (by decide); have b2_ : ((4 : Int) == 3) = false := (by decide); simp only [b0_, b1_, b2_]; cases (topV p.a6 != 0) <;> cases (topV p.a17 != 0) <;> rfl
  · rw [F (by omega), k]; have b0_ : decide (0 < bits BinOp.and IntKind.i64 (hasL.getD (Int.toNat 5) 0) 4) = false := (by decide); have b1_ : ((5 : Int) == 1) = false := (by decide); have b2_ : ((5 : Int) == 3) = false := (by decide); simp only [b0_, b1_, b2_]; cases (topV p.a6 != 0) <;> cases (topV p.a17 != 0) <;> rfl
  · rw [F (by omega), k]; have b0_ : decide (0 < bits BinOp.and IntKind.i64 (hasL.getD (Int.toNat 6) 0) 4) = false := (by decide); have b1_ : ((6 : Int) == 1) = false := (by decide); have b2_ : ((6 : Int) == 3) = false := (by decide); simp only [b0_, b1_, b2_]; cases (topV p.a6 != 0) <;> cases (topV p.a17 != 0) <;> rfl
  · rw [F (by omega), k]; have b0_ : decide (0 < bits BinOp.and IntKind.i64 (hasL.getD (Int.toNat 7) 0) 4) = false := (by decide); have b1_ : ((7 : Int) == 1) = false := (by decide); have b2_ : ((7 : Int) == 3) = false := (by decide); simp only [b0_, b1_, b2_]; cases (topV p.a6 != 0) <;> cases (topV p.a17 != 0) <;> rfl
  · rw [F (by omega), k]; have b0_ : decide (0 < bits BinOp.and IntKind.i64 (hasL.getD (Int.toNat 8) 0) 4) = false := (by decide); have b1_ : ((8 : Int) == 1) = false := (by decide); have b2_ : ((8 : Int) == 3) = false := (by decide); simp only [b0_, b1_, b2_]; cases (topV p.a6 != 0) <;> cases (topV p.a17 != 0) <;> rfl
  · rw [F (by omega), k]; have b0_ : decide (0 < bits BinOp.and IntKind.i64 (hasL.getD (Int.toNat 9) 0) 4) = false := (by decide); have b1_ : ((9 : Int) == 1) = false := (by decide); have b2_ : ((9 : Int) == 3) = false := (by decide); simp only [b0_, b1_, b2_]; cases (topV p.a6 != 0) <;> cases (topV p.a17 != 0) <;> rfl
  · rw [F (by omega), k]; have b0_ : decide (0 < bits BinOp.and IntKind.i64 (hasL.getD (Int.toNat 10) 0) 4) = false := (by decide); have b1_ : ((10 : Int) == 1) = false := (by decide); have b2_ : ((10 : Int) == 3) = false := (by decide); simp only [b0_, b1_, b2_]; cases (topV p.a6 != 0) <;> cases (topV p.a17 != 0) <;> rfl
  · rw [F (by omega), k]; have b0_ : decide (0 < bits BinOp.and IntKind.i64 (hasL.getD (Int.toNat 11) 0) 4) = false := (by decide); have b1_ : ((11 : Int) == 1) = false := (by decide); have b2_ : ((11 : Int) == 3) = false := (by decide); simp only [b0_, b1_, b2_]; cases (topV p.a6 != 0) <;> cases (topV p.a17 != 0) <;> rfl
  · rw [F (by omega), k]; have b0_ : decide (0 < bits BinOp.and IntKind.i64 (hasL.getD (Int.toNat 12) 0) 4) = false := (by decide); have b1_ : ((12 : Int) == 1) = false := (by decide); have b2_ : ((12 : Int) == 3) = false := (by decide); simp only [b0_, b1_, b2_]; cases (topV p.a6 != 0) <;> cases (topV p.a17 != 0) <;> rfl
  · rw [F (by omega), k]; have b0_ : decide (0 < bits BinOp.and IntKind.i64 (hasL.getD (Int.toNat 13) 0) 4) = false := (by decide); have b1_ : ((13 : Int) == 1) = false := (by decide); have b2_ : ((13 : Int) == 3) = false := (by decide); simp only [b0_, b1_, b2_]; cases (topV p.a6 != 0) <;> cases (topV p.a17 != 0) <;> rfl
  · rw [F (by omega), k]; have b0_ : decide (0 < bits BinOp.and IntKind.i64 (hasL.getD (Int.toNat 14) 0) 4) = false := (by decide); have b1_ : ((14 : Int) == 1) = false := (by decide); have b2_ : ((14 : Int) == 3) = false := (by decide); simp only [b0_, b1_, b2_]; cases (topV p.a6 != 0) <;> cases (topV p.a17 != 0) <;> rfl
theorem e5_eq (p : P) (h : p.rfo = false) : p.rql = qualV p := by
  obtain ⟨F1, F2, F3, _⟩ := rfo_facts p h
  unfold P.rql qualV
  by_cases k1 : p.a0 = 1
  · have k3 : p.a0 ≠ 3 := by omega
    rw [beq_iff_eq.2 k1, beq_eq_false_iff_ne.2 k3, F3 k3, isQ0]
    cases h5 : p.a5 with
    | true => cases isQ p.a8 <;> rfl
    | false => rw [F2 (fun e => by rw [h5] at e; cases e.2), isQ0]; rfl
  · rw [beq_eq_false_iff_ne.2 k1, F2 (fun e => k1 e.1), isQ0]
    by_cases k3 : p.a0 = 3
    · rw [beq_iff_eq.2 k3]; cases isQ p.a19 <;> rfl
    · rw [beq_eq_false_iff_ne.2 k3, F3 k3, isQ0]; rfl
theorem e7_eq (p : P) (h1 : ¬ p.a0 < 1) (h2 : ¬ 14 < p.a0) (h : p.rfo = false) : partV (numberedV p.a0 p.a19) (midV p.a0 p.a5 p.a10 p.a12 p.a4.size p.a6.size p.l7.length p.a11.size p.l13.length p.a17.size p.l18.length p.l22 p.l24 p.l23.length) 0 = p.len := by
  obtain ⟨_, _, _, F8, F9, F10⟩ := rfo_facts p h
  unfold P.len lenV midV P.h
  rcases Kin.kind_cases h1 h2 with k | k | k | k | k | k | k | k | k | k | k | k | k | k
  · rw [F8 (by omega)]; rw [F9 (by omega)]; rw [F10 (by omega)]; rw [k]; have b0_ : decide (0 < bits BinOp.and IntKind.i64 (hasL.getD (Int.toNat 1) 0) 1) = true := (by decide); have b1_ : decide (0 < bits BinOp.and IntKind.i64 (hasL.getD (Int.toNat 1) 0) 2) = false := (by decide); have b2_ : decide (0 < bits BinOp.and IntKind.i64 (hasL.getD (Int.toNat 1) 0) 4) = false := (by decide); simp only [b0_, b1_, b2_]; generalize numberedV _ _ = nb; cases nb <;> simp [partV, len1, sumA, sumT] <;> (try omega) <;> (cases p.a5 <;> cases p.a10 <;> cases p.a12 <;> simp <;> omega)
  · rw [F8 (by omega)]; rw [F9 (by omega)]; rw [F10 (by omega)]; rw [k]; have b0_ : decide (0 < bits BinOp.and IntKind.i64 (hasL.getD (Int.toNat 2) 0) 1) = false := (by decide); have b1_ : decide (0 < bits BinOp.and IntKind.i64 (hasL.getD (Int.toNat 2) 0) 2) = true := (by decide); have b2_ : decide (0 < bits BinOp.and IntKind.i64 (hasL.getD (Int.toNat 2) 0) 4) = false := (by decide); simp only [b0_, b1_, b2_]; generalize numberedV _ _ = nb; cases nb <;> simp [partV, len1, sumA, sumT] <;> (try omega)
  · rw [F8 (by omega)]; rw [F9 (by omega)]; rw [F10 (by omega)]; rw [k]; have b0_ : decide (0 < bits BinOp.and IntKind.i64 (hasL.getD (Int.toNat 3) 0) 1) = false := (by decide); have b1_ : decide (0 < bits BinOp.and IntKind.i64 (hasL.getD (Int.toNat 3) 0) 2) = false := (by decide); have b2_ : decide (0 < bits BinOp.and IntKind.i64 (hasL.getD (Int.toNat 3) 0) 4) = true := (by decide); simp only [b0_, b1_, b2_]; generalize numberedV _ _ = nb; cases nb <;> simp [partV, len1, sumA, sumT] <;> (try omega)
  · rw [F8 (by omega)]; rw [F9 (by omega)]; rw [F10 (by omega)]; rw [k]; have b0_ : decide (0 < bits BinOp.and IntKind.i64 (hasL.getD (Int.toNat 4) 0) 1) = false := (by decide); have b1_ : decide (0 < bits BinOp.and IntKind.i64 (hasL.getD (Int.toNat 4) 0) 2) = false := (by decide); have b2_ : decide (0 < bits BinOp.and IntKind.i64 (hasL.getD (Int.toNat 4) 0) 4) = false := (by decide); simp only [b0_, b1_, b2_]; generalize numberedV _ _ = nb; cases nb <;> simp [partV, len1, sumA, sumT] <;> (try omega)
  · rw [F8 (by omega)]; rw [F9 (by omega)]; rw [F10 (by omega)]; rw [k]; have b0_ : decide (0 < bits BinOp.and IntKind.i64 (hasL.getD (Int.toNat 5) 0) 1) = false := (by decide); have b1_ : decide (0 < bits BinOp.and IntKind.i64 (hasL.getD (Int.toNat 5) 0) 2) = false := (by decide); have b2_ : decide (0 < bits BinOp.and IntKind.i64 (hasL.getD (Int.toNat 5) 0) 4) = false := (by decide); simp only [b0_, b1_, b2_]; generalize numberedV _ _ = nb; cases nb <;> simp [partV, len1, sumA, sumT] <;> (try omega)
  · rw [F8 (by omega)]; rw [F9 (by omega)]; rw [F10 (by omega)]; rw [k]; have b0_ : decide (0 < bits BinOp.and IntKind.i64 (hasL.getD (Int.toNat 6) 0) 1) = false := (by decide); have b1_ : decide (0 < bits BinOp.and IntKind.i64 (hasL.getD (Int.toNat 6) 0) 2) = false := (by decide); have b2_ : decide (0 < bits BinOp.and IntKind.i64 (hasL.getD (Int.toNat 6) 0) 4) = false := (by decide); simp only [b0_, b1_, b2_]; generalize numberedV _ _ = nb; cases nb <;> simp [partV, len1, sumA, sumT] <;> (try omega)
  · rw [F8 (by omega)]; rw [F9 (by omega)]; rw [F10 (by omega)]; rw [k]; have b0_ : decide (0 < bits BinOp.and IntKind.i64 (hasL.getD (Int.toNat 7) 0) 1) = false := (by decide); have b1_ : decide (0 < bits BinOp.and IntKind.i64 (hasL.getD (Int.toNat 7) 0) 2) = false := (by decide); have b2_ : decide (0 < bits BinOp.and IntKind.i64 (hasL.getD (Int.toNat 7) 0) 4) = false := (by decide); simp only [b0_, b1_, b2_]; generalize numberedV _ _ = nb; cases nb <;> simp [partV, len1, sumA, sumT] <;> (try omega)
  · rw [F9 (by omega)]; rw [F10 (by omega)]; rw [k]; have b0_ : decide (0 < bits BinOp.and IntKind.i64 (hasL.getD (Int.toNat 8) 0) 1) = false := (by decide); have b1_ : decide (0 < bits BinOp.and IntKind.i64 (hasL.getD (Int.toNat 8) 0) 2) = false := (by decide); have b2_ : decide (0 < bits BinOp.and IntKind.i64 (hasL.getD (Int.toNat 8) 0) 4) = false := (by decide); simp only [b0_, b1_, b2_]; generalize numberedV _ _ = nb; cases nb <;> simp [partV, len1, sumA, sumT] <;> (try omega)
  · rw [F8 (by omega)]; rw [F10 (by omega)]; rw [k]; have b0_ : decide (0 < bits BinOp.and IntKind.i64 (hasL.getD (Int.toNat 9) 0) 1) = false := (by decide); have b1_ : decide (0 < bits BinOp.and IntKind.i64 (hasL.getD (Int.toNat 9) 0) 2) = false := (by decide); have b2_ : decide (0 < bits BinOp.and IntKind.i64 (hasL.getD (Int.toNat 9) 0) 4) = false := (by decide); simp only [b0_, b1_, b2_]; generalize numberedV _ _ = nb; cases nb <;> simp [partV, len1, sumA, sumT] <;> (try omega)
  · rw [F8 (by omega)]; rw [F9 (by omega)]; rw [k]; have b0_ : decide (0 < bits BinOp.and IntKind.i64 (hasL.getD (Int.toNat 10) 0) 1) = false := (by decide); have b1_ : decide (0 < bits BinOp.and IntKind.i64 (hasL.getD (Int.toNat 10) 0) 2) = false := (by decide); have b2_ : decide (0 < bits BinOp.and IntKind.i64 (hasL.getD (Int.toNat 10) 0) 4) = false := (by decide); simp only [b0_, b1_, b2_]; generalize numberedV _ _ = nb; cases nb <;> simp [partV, len1, sumA, sumT] <;> (try omega)
  · rw [F8 (by omega)]; rw [F9 (by omega)]; rw [F10 (by omega)]; rw [k]; have b0_ : decide (0 < bits BinOp.and IntKind.i64 (hasL.getD (Int.toNat 11) 0) 1) = false := (by decide); have b1_ : decide (0 < bits BinOp.and IntKind.i64 (hasL.getD (Int.toNat 11) 0) 2) = false := (by decide); have b2_ : decide (0 < bits BinOp.and IntKind.i64 (hasL.getD (Int.toNat 11) 0) 4) = false := (by decide); simp only [b0_, b1_, b2_]; generalize numberedV _ _ = nb; cases nb <;> simp [partV, len1, sumA, sumT] <;> (try omega)
  · rw [F8 (by omega)]; rw [F9 (by omega)]; rw [F10 (by omega)]; rw [k]; have b0_ : decide (0 < bits BinOp.and IntKind.i64 (hasL.getD (Int.toNat 12) 0) 1) = false := (by decide); have b1_ : decide (0 < bits BinOp.and IntKind.i64 (hasL.getD (Int.toNat 12) 0) 2) = false := (by decide); have b2_ : decide (0 < bits BinOp.and IntKind.i64 (hasL.getD (Int.toNat 12) 0) 4) = false := (by decide); simp only [b0_, b1_, b2_]; generalize numberedV _ _ = nb; cases nb <;> simp [partV, len1, sumA, sumT] <;> (try omega)
  · rw [F8 (by omega)]; rw [F9 (by omega)]; rw [F10 (by omega)]; rw [k]; have b0_ : decide (0 < bits BinOp.and IntKind.i64 (hasL.getD (Int.toNat 13) 0) 1) = false := (by decide); have b1_ : decide (0 < bits BinOp.and IntKind.i64 (hasL.getD (Int.toNat 13) 0) 2) = false := (by decide); have b2_ : decide (0 < bits BinOp.and IntKind.i64 (hasL.getD (Int.toNat 13) 0) 4) = false := (by decide); simp only [b0_, b1_, b2_]; generalize numberedV _ _ = nb; cases nb <;> simp [partV, len1, sumA, sumT] <;> (try omega)
  · rw [F8 (by omega)]; rw [F9 (by omega)]; rw [F10 (by omega)]; rw [k]; have b0_ : decide (0 < bits BinOp.and IntKind.i64 (hasL.getD (Int.toNat 14) 0) 1) = false := (by decide); have b1_ : decide (0 < bits BinOp.and IntKind.i64 (hasL.getD (Int.toNat 14) 0) 2) = false := (by decide); have b2_ : decide (0 < bits BinOp.and IntKind.i64 (hasL.getD (Int.toNat 14) 0) 4) = false := (by decide); simp only [b0_, b1_, b2_]; generalize numberedV _ _ = nb; cases nb <;> simp [partV, len1, sumA, sumT] <;> (try omega)
theorem e8_eq (p : P) (h1 : ¬ p.a0 < 1) (h2 : ¬ 14 < p.a0) : (((p.a0 == 8) && ((p.l22.length : Int) == 0)) || (((p.a0 == 9) && ((p.l23.length : Int) == 0)) || ((p.a0 == 10) && ((p.l24.length : Int) == 0)))) =
    ((decide (0 < bits BinOp.and IntKind.i64 p.h 16) && ((p.l22.length : Int) == 0)) || ((decide (0 < bits BinOp.and IntKind.i64 p.h 32) && ((p.l23.length : Int) == 0)) || (decide (0 < bits BinOp.and IntKind.i64 p.h 64) && ((p.l24.length : Int) == 0)))) := by
  unfold P.h
  rcases Kin.kind_cases h1 h2 with k | k | k | k | k | k | k | k | k | k | k | k | k | k
  · rw [k]; have b0_ : decide (0 < bits BinOp.and IntKind.i64 (hasL.getD (Int.toNat 1) 0) 16) = false := (by decide); have b1_ : decide (0 < bits BinOp.and IntKind.i64 (hasL.getD (Int.toNat 1) 0) 32) = false := (by decide); have b2_ : decide (0 < bits BinOp.and IntKind.i64 (hasL.getD (Int.toNat 1) 0) 64) = false := (by decide); have b3_ : ((1 : Int) == 8) = false := (by decide); have b4_ : ((1 : Int) == 9) = false := (by decide); have b5_ : ((1 : Int) == 10) = false := (by decide); simp only [b0_, b1_, b2_, b3_, b4_, b5_]
  · rw [k]; have b0_ : decide (0 < bits BinOp.and IntKind.i64 (hasL.getD (Int.toNat 2) 0) 16) = false := (by decide); have b1_ : decide (0 < bits BinOp.and IntKind.i64 (hasL.getD (Int.toNat 2) 0) 32) = false := (by decide); have b2_ : decide (0 < bits BinOp.and IntKind.i64 (hasL.getD (Int.toNat 2) 0) 64) = false := (by decide); have b3_ : ((2 : Int) == 8) = false := (by decide); have b4_ : ((2 : Int) == 9) = false := (by decide); have b5_ : ((2 : Int) == 10) = false := (by decide); simp only [b0_, b1_, b2_, b3_, b4_, b5_]
  · rw [k]; have b0_ : decide (0 < bits BinOp.and IntKind.i64 (hasL.getD (Int.toNat 3) 0) 16) = false := (by decide); have b1_ : decide (0 < bits BinOp.and IntKind.i64 (hasL.getD (Int.toNat 3) 0) 32) = false := (by decide); have b2_ : decide (0 < bits BinOp.and IntKind.i64 (hasL.getD (Int.toNat 3) 0) 64) = false := (by decide); have b3_ : ((3 : Int) == 8) = false := (by decide); have b4_ : ((3 : Int) == 9) = false := (by decide); have b5_ : ((3 : Int) == 10) = false := (by decide); simp only [b0_, b1_, b2_, b3_, b4_, b5_]
  · rw [k]; have b0_ : decide (0 < bits BinOp.and IntKind.i64 (hasL.getD (Int.toNat 4) 0) 16) = false := (by decide); have b1_ : decide (0 < bits BinOp.and IntKind.i64 (hasL.getD (Int.toNat 4) 0) 32) = false := (by decide); have b2_ : decide (0 < bits BinOp.and IntKind.i64 (hasL.getD (Int.toNat 4) 0) 64) = false := (by decide); have b3_ : ((4 : Int) == 8) = false := (by decide); have b4_ : ((4 : Int) == 9) = false := (by decide); have b5_ : ((4 : Int) == 10) = false := (by decide); simp only [b0_, b1_, b2_, b3_, b4_, b5_]
  · rw [k]; have b0_ : decide (0 < bits BinOp.and IntKind.i64 (hasL.getD (Int.toNat 5) 0) 16) = false := (by decide); have b1_ : decide (0 < bits BinOp.and IntKind.i64 (hasL.getD (Int.toNat 5) 0) 32) = false := (by decide); have b2_ : decide (0 < bits BinOp.and IntKind.i64 (hasL.getD (Int.toNat 5) 0) 64) = false := (by decide); have b3_ : ((5 : Int) == 8) = false := (by decide); have b4_ : ((5 : Int) == 9) = false := (by decide); have b5_ : ((5 : Int) == 10) = false := (by decide); simp only [b0_, b1_, b2_, b3_, b4_, b5_]
  · rw [k]; have b0_ : decide (0 < bits BinOp.and IntKind.i64 (hasL.getD (Int.toNat 6) 0) 16) = false := (by decide); have b1_ : decide (0 < bits BinOp.and IntKind.i64 (hasL.getD (Int.toNat 6) 0) 32) = false := (by decide); have b2_ : decide (0 < bits BinOp.and IntKind.i64 (hasL.getD (Int.toNat 6) 0) 64) = false := (by decide); have b3_ : ((6 : Int) == 8) = false := (by decide); have b4_ : ((6 : Int) == 9) = false := (by decide); have b5_ : ((6 : Int) == 10) = false := (by decide); simp only [b0_, b1_, b2_, b3_, b4_, b5_]
  · rw [k]; have b0_ : decide (0 < bits BinOp.and IntKind.i64 (hasL.getD (Int.toNat 7) 0) 16) = false := (by decide); have b1_ : decide (0 < bits BinOp.and IntKind.i64 (hasL.getD (Int.toNat 7) 0) 32) = false := (by decide); have b2_ : decide (0 < bits BinOp.and IntKind.i64 (hasL.getD (Int.toNat 7) 0) 64) = false := (by decide); have b3_ : ((7 : Int) == 8) = false := (by decide); have b4_ : ((7 : Int) == 9) = false := (by decide); have b5_ : ((7 : Int) == 10) = false := (by decide); simp only [b0_, b1_, b2_, b3_, b4_, b5_]
  · rw [k]; have b0_ : decide (0 < bits BinOp.and IntKind.i64 (hasL.getD (Int.toNat 8) 0) 16) = true := (by decide); have b1_ : decide (0 < bits BinOp.and IntKind.i64 (hasL.getD (Int.toNat 8) 0) 32) = false := (by decide); have b2_ : decide (0 < bits BinOp.and IntKind.i64 (hasL.getD (Int.toNat 8) 0) 64) = false := (by decide); have b3_ : ((8 : Int) == 8) = true := (by decide); have b4_ : ((8 : Int) == 9) = false := (by decide); have b5_ : ((8 : Int) == 10) = false := (by decide); simp only [b0_, b1_, b2_, b3_, b4_, b5_]
  · rw [k]; have b0_ : decide (0 < bits BinOp.and IntKind.i64 (hasL.getD (Int.toNat 9) 0) 16) = false := (by decide); have b1_ : decide (0 < bits BinOp.and IntKind.i64 (hasL.getD (Int.toNat 9) 0) 32) = true := (by decide); have b2_ : decide (0 < bits BinOp.and IntKind.i64 (hasL.getD (Int.toNat 9) 0) 64) = false := (by decide); have b3_ : ((9 : Int) == 8) = false := (by decide); have b4_ : ((9 : Int) == 9) = true := (by decide); have b5_ : ((9 : Int) == 10) = false := (by decide); simp only [b0_, b1_, b2_, b3_, b4_, b5_]
  · rw [k]; have b0_ : decide (0 < bits BinOp.and IntKind.i64 (hasL.getD (Int.toNat 10) 0) 16) = false := (by decide); have b1_ : decide (0 < bits BinOp.and IntKind.i64 (hasL.getD (Int.toNat 10) 0) 32) = false := (by decide); have b2_ : decide (0 < bits BinOp.and IntKind.i64 (hasL.getD (Int.toNat 10) 0) 64) = true := (by decide); have b3_ : ((10 : Int) == 8) = false := (by decide); have b4_ : ((10 : Int) == 9) = false := (by decide); have b5_ : ((10 : Int) == 10) = true := (by decide); simp only [b0_, b1_, b2_, b3_, b4_, b5_]
  · rw [k]; have b0_ : decide (0 < bits BinOp.and IntKind.i64 (hasL.getD (Int.toNat 11) 0) 16) = false := (by decide); have b1_ : decide (0 < bits BinOp.and IntKind.i64 (hasL.getD (Int.toNat 11) 0) 32) = false := (by decide); have b2_ : decide (0 < bits BinOp.and IntKind.i64 (hasL.getD (Int.toNat 11) 0) 64) = false := (by decide); have b3_ : ((11 : Int) == 8) = false := (by decide); have b4_ : ((11 : Int) == 9) = false := (by decide); have b5_ : ((11 : Int) == 10) = false := (by decide); simp only [b0_, b1_, b2_, b3_, b4_, b5_]
  · rw [k]; have b0_ : decide (0 < bits BinOp.and IntKind.i64 (hasL.getD (Int.toNat 12) 0) 16) = false := (by decide); have b1_ : decide (0 < bits BinOp.and IntKind.i64 (hasL.getD (Int.toNat 12) 0) 32) = false := (by decide); have b2_ : decide (0 < bits BinOp.and IntKind.i64 (hasL.getD (Int.toNat 12) 0) 64) = false := (by decide); have b3_ : ((12 : Int) == 8) = false := (by decide); have b4_ : ((12 : Int) == 9) = false := (by decide); have b5_ : ((12 : Int) == 10) = false := (by decide); simp only [b0_, b1_, b2_, b3_, b4_, b5_]
  · rw [k]; have b0_ : decide (0 < bits BinOp.and IntKind.i64 (hasL.getD (Int.toNat 13) 0) 16) = false := (by decide); have b1_ : decide (0 < bits BinOp.and IntKind.i64 (hasL.getD (Int.toNat 13) 0) 32) = false := (by decide); have b2_ : decide (0 < bits BinOp.and IntKind.i64 (hasL.getD (Int.toNat 13) 0) 64) = false := (by decide); have b3_ : ((13 : Int) == 8) = false := (by decide); have b4_ : ((13 : Int) == 9) = false := (by decide); have b5_ : ((13 : Int) == 10) = false := (by decide); simp only [b0_, b1_, b2_, b3_, b4_, b5_]
  · rw [k]; have b0_ : decide (0 < bits BinOp.and IntKind.i64 (hasL.getD (Int.toNat 14) 0) 16) = false := (by decide); have b1_ : decide (0 < bits BinOp.and IntKind.i64 (hasL.getD (Int.toNat 14) 0) 32) = false := (by decide); have b2_ : decide (0 < bits BinOp.and IntKind.i64 (hasL.getD (Int.toNat 14) 0) 64) = false := (by decide); have b3_ : ((14 : Int) == 8) = false := (by decide); have b4_ : ((14 : Int) == 9) = false := (by decide); have b5_ : ((14 : Int) == 10) = false := (by decide); simp only [b0_, b1_, b2_, b3_, b4_, b5_]
theorem check_law (p : P) : p.rck = p.check := by
  unfold P.rck P.check
  by_cases k1 : p.a0 < 1
  · rw [if_pos k1, if_pos (by rw [decide_eq_true k1]; rfl)]
  by_cases k2 : 14 < p.a0
  · rw [if_neg k1, if_pos k2, if_pos (by rw [decide_eq_true k2]; exact Bool.or_true _)]
  rw [if_neg k1, if_neg k2, if_neg (by rw [decide_eq_false k1, decide_eq_false k2]; decide), wi_not, wi_not, wi_not, rfo_eq p k1 k2]
  have a : ∀ x1 x2 y1 y2 z1 z2 : Bool, (p.foreign || ((x1 || x2) || ((y1 || y2) || (z1 || z2)))) = (p.foreign || (x1 || (x2 || (y1 || (y2 || (z1 || z2)))))) := by intro x1 x2 y1 y2 z1 z2; simp only [Bool.or_assoc]
  rw [a]
  by_cases f : (p.foreign || (decide (p.a1 < 0) || (decide (255 < p.a1) || (decide (p.a15 < 0) || (decide (255 < p.a15) || (decide (p.a3 < 0) || decide (65535 < p.a3))))))) = true
  · unfold checkV; rw [if_pos f, if_pos f]
  have nf : p.rfo = false := by
    rw [rfo_eq p k1 k2]
    cases h : p.foreign with
    | false => rfl
    | true => rw [h] at f; exact absurd rfl f
  rw [e3_eq p k1 k2 nf, e5_eq p nf, e7_eq p k1 k2 nf, e8_eq p k1 k2]
theorem check_zero {p : P} (h : p.check = 0) : ¬ p.a0 < 1 ∧ ¬ 14 < p.a0 ∧ p.rfo = false ∧ isQ p.a19 = true := by
  unfold P.check at h
  by_cases k1 : p.a0 < 1
  · rw [if_pos k1] at h; cases h
  by_cases k2 : 14 < p.a0
  · rw [if_neg k1, if_pos k2] at h; cases h
  rw [if_neg k1, if_neg k2] at h
  refine ⟨k1, k2, ?_, ?_⟩
  · rw [rfo_eq p k1 k2]
    cases hf : p.foreign with
    | false => rfl
    | true => unfold checkV at h; rw [hf, if_pos (by rfl)] at h; cases h
  · cases hq : qualV p with
    | true => unfold qualV at hq; simp only [Bool.and_eq_true] at hq; exact hq.2.1
    | false =>
      unfold checkV at h; rw [hq] at h
      exfalso
      revert h
      repeat' split
      all_goals (first | (intro h; cases h; done) | (intro h; simp_all; done))
theorem flags_law (p : P) : flagsV p.check p.a0 p.a19 p.a16 p.a20 = p.flags := by
  unfold flagsV P.flags
  by_cases h : p.check = 0
  · rw [if_pos h, if_pos h]
    obtain ⟨k1, k2, _⟩ := check_zero h
    rcases Kin.kind_cases k1 k2 with k | k | k | k | k | k | k | k | k | k | k | k | k | k <;> rw [k] <;> rfl
  · rw [if_neg h, if_neg h]
theorem length_law (p : P) : (if p.check = 0 then partV (numberedV p.a0 p.a19) (midV p.a0 p.a5 p.a10 p.a12 p.a4.size p.a6.size p.l7.length p.a11.size p.l13.length p.a17.size p.l18.length p.l22 p.l24 p.l23.length) 0 else 0) = p.length := by
  unfold P.length
  by_cases h : p.check = 0
  · rw [if_pos h, if_pos h]; obtain ⟨k1, k2, nf, _⟩ := check_zero h; exact e7_eq p k1 k2 nf
  · rw [if_neg h, if_neg h]
def cmV (t : ByteArray) (q : Int) : Int := if topV t != 0 then 23 else if isQ q = true then 0 else 25
theorem cm_ref (t : ByteArray) (l : List Int) (q : Int) (r : Bool) (ht : t.size ≤ 1000000) (k : Nat) (hk : 20000000 < k) : crierref2_CheckMessage.f k t l q r = some (cmV t q) := by
  unfold crierref2_CheckMessage.f cmV
  obtain ⟨c, e1, e2⟩ := check_some5 t ht k hk
  rw [e1]
  simp only [Option.bind_some, if_bne, e2, withinQ]
  cases (topV t != 0) <;> cases isQ q <;> rfl
theorem cm_prog (t : ByteArray) (l : List Int) (q : Int) (r : Bool) (ht : t.size ≤ 1000000) : packet_CheckMessage.f t l q r = some (cmV t q) := by
  unfold packet_CheckMessage.f cmV
  rw [top_some (by omega)]
  simp only [Option.bind_some, if_bne, isQ_some]
  cases (topV t != 0) <;> cases isQ q <;> rfl

end Go.Proofs.YtndhkgfeknkfdaaGreatDoor.Pk
