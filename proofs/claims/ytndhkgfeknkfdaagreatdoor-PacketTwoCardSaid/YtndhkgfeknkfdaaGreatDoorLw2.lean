/- crierref2.Same and packet.Same answer alike. -/
import Derived.Test.YtndhkgfeknkfdaaGreatDoorRsa
namespace Go.Proofs.YtndhkgfeknkfdaaGreatDoor.Pk
open Go.RowKit Go.Proofs.YtndhkgfeknkfdaaGreatDoorW.PrintWords Go.Proofs.YtndhkgfeknkfdaaGreatDoorW.PrintLast Go.Proofs.YtndhkgfeknkfdaaGreatDoorW.PrintMore Go.Proofs.YtndhkgfeknkfdaaGreatDoor.MPacketChecks
set_option linter.unusedVariables false
set_option linter.unusedSimpArgs false
set_option maxRecDepth 100000
theorem sbl_all (l q : List Int) (hq : l.length = q.length) (hl : (l.length : Int) ≤ 1125899906842624) (d : Nat) : ∀ (k : Nat) (i : Int), 0 ≤ i → i ≤ l.length → (l.length : Int) - i = d → d < k → ∃ r, crierref2_sameBytes.l0 k l q i = some r ∧ (r = true ↔ ∀ j : Nat, i ≤ j → l[j]? = q[j]?) := by
 induction d with
 | zero =>
  intro k i h0 h1 hd hk
  obtain ⟨k, rfl⟩ : ∃ m, k = m + 1 := ⟨k - 1, by omega⟩
  rw [crierref2_sameBytes.l0, if_neg (by omega)]
  exact ⟨true, rfl, fun _ j hj => by rw [List.getElem?_eq_none (by omega), List.getElem?_eq_none (by omega)], fun _ => rfl⟩
 | succ d ih =>
  intro k i h0 h1 hd hk
  obtain ⟨k, rfl⟩ : ∃ m, k = m + 1 := ⟨k - 1, by omega⟩
  have hlt : i < (l.length : Int) := by omega
  have hlt2 : i < (q.length : Int) := by omega
  have e1 : l[i.toNat]? = some (rd l i) := by unfold rd; rw [List.getD_eq_getElem?_getD, List.getElem?_eq_getElem (by omega)]; rfl
  have e2 : q[i.toNat]? = some (rd q i) := by unfold rd; rw [List.getD_eq_getElem?_getD, List.getElem?_eq_getElem (by omega)]; rfl
  rw [crierref2_sameBytes.l0, if_pos hlt, if_pos h0, if_pos hlt2]
  by_cases he : rd l i = rd q i
  ·rw [if_pos he, wrap_up h0 hlt hl]
   obtain ⟨r, h2, h3⟩ := ih k (i + 1) (by omega) (by omega) (by omega) (by omega)
   refine ⟨r, h2, h3.trans ⟨fun h j hj => ?_, fun h j hj => h j (by omega)⟩⟩
   by_cases hj2 : j = i.toNat
   ·subst hj2; rw [e1, e2, he]
   ·exact h j (by omega)
  ·rw [if_neg he]
   refine ⟨false, rfl, ⟨fun h => (by cases h), fun h => absurd ?_ he⟩⟩
   have := h i.toNat (by omega)
   rw [e1, e2] at this
   exact Option.some.inj this
theorem sb_all (l q : List Int) (hl : (l.length : Int) ≤ 1125899906842624) : ∃ k r, crierref2_sameBytes.f k l q = some r ∧ (r = true ↔ l = q) := by
 unfold crierref2_sameBytes.f
 by_cases hq : l.length = q.length
 ·obtain ⟨r, h2, h3⟩ := sbl_all l q hq hl l.length (l.length + 1) 0 (by omega) (by omega) (by omega) (by omega)
  refine ⟨l.length + 1, r, by rw [if_pos (by omega)]; exact h2, h3.trans ⟨fun h => List.ext_getElem? (fun j => h j (by omega)), fun h j _ => by rw [h]⟩⟩
 ·exact ⟨0, false, by rw [if_neg (by omega)], fun h => (by cases h), fun h => absurd (congrArg List.length h) hq⟩
theorem sm_all (t : ByteArray) (l : List Int) (a : Int) (b : Bool) (t' : ByteArray) (l' : List Int) (a' : Int) (b' : Bool) (hl : (l.length : Int) ≤ 1125899906842624) : ∃ k r, crierref2_SameMessage.f k t l a b t' l' a' b' = some r ∧ (r = true ↔ t = t' ∧ l = l' ∧ a = a' ∧ b = b') := by
 obtain ⟨k, r, h1, h2⟩ := sb_all l l' hl
 unfold crierref2_SameMessage.f
 by_cases ht : t.toList = t'.toList
 ·by_cases ha : a = a'
  ·by_cases hb : b = b'
   ·exact ⟨k, r, by rw [if_pos ht, if_pos ha, if_pos (by simp [hb]), h1]; rfl, h2.trans ⟨fun h => ⟨toList_inj ht, h, ha, hb⟩, fun h => h.2.1⟩⟩
   ·exact ⟨k, false, by rw [if_pos ht, if_pos ha, if_neg (by simp [hb])], fun h => (by cases h), fun h => absurd h.2.2.2 hb⟩
  ·exact ⟨k, false, by rw [if_pos ht, if_neg ha], fun h => (by cases h), fun h => absurd h.2.2.1 ha⟩
 ·exact ⟨k, false, by rw [if_neg ht], fun h => (by cases h), fun h => absurd (by rw [h.1]) ht⟩
theorem son_inj : ∀ {l q : List Int}, (∀ x ∈ l, 0 ≤ x ∧ x ≤ 255) → (∀ x ∈ q, 0 ≤ x ∧ x ≤ 255) → strOfNums l = strOfNums q → l = q := fun {l q} hl hq h => by
 have h1 : l.map (fun n => UInt8.ofNat n.toNat) = q.map (fun n => UInt8.ofNat n.toNat) := by rw [← strOfNums_data, ← strOfNums_data, h]
 clear h
 induction l generalizing q with
 | nil => cases q with
  | nil => rfl
  | cons y ys => simp at h1
 | cons x xs ih => cases q with
  | nil => simp at h1
  | cons y ys =>
   rw [List.map_cons, List.map_cons] at h1
   injection h1 with h1 h2
   have hx := hl x (List.mem_cons_self ..)
   have hy := hq y (List.mem_cons_self ..)
   have e := ih (fun z hz => hl z (List.mem_cons_of_mem _ hz)) (fun z hz => hq z (List.mem_cons_of_mem _ hz)) h2
   have e2 := congrArg UInt8.toNat h1
   rw [UInt8.toNat_ofNat', UInt8.toNat_ofNat', Nat.mod_eq_of_lt (by omega), Nat.mod_eq_of_lt (by omega)] at e2
   rw [e, show x = y by omega]
/-- bytes -/
def By (l : List Int) : Prop := ∀ x ∈ l, 0 ≤ x ∧ x ≤ 255
theorem two_law (p q : P) (hs : p.sum ≤ 4294967280) (hp : By p.l7 ∧ By p.l13 ∧ By p.l18) (hq : By q.l7 ∧ By q.l13 ∧ By q.l18) : ∃ (krW krM krB : Nat) (rW rM rB R : Bool),
  crierref2_SameMessage.f krW p.a6 p.l7 p.a8 p.a9 q.a6 q.l7 q.a8 q.a9 = some rW ∧ crierref2_SameMessage.f krM p.a17 p.l18 p.a19 p.a20 q.a17 q.l18 q.a19 q.a20 = some rM ∧ crierref2_sameBytes.f krB p.l13 q.l13 = some rB ∧
  (R = true ↔ ((p.a0 != q.a0) || ((p.a1 != q.a1) || ((p.a2 != q.a2) || ((p.a3 != q.a3) || ((p.a4.toList != q.a4.toList) || ((p.a5 != q.a5) || ((p.a10 != q.a10) || ((p.a11.toList != q.a11.toList) || (p.a12 != q.a12))))))))) = false ∧ ((p.a14 != q.a14) || ((p.a15 != q.a15) || ((p.a16 != q.a16) || ((p.a21 != q.a21) || ((!rW) || ((!rM) || (!rB))))))) = false ∧ p.l22 = q.l22 ∧ p.l23 = q.l23 ∧ p.l24 = q.l24) ∧ (R = true ↔ Alike p q) := by
 have n22 := sumA_len p.l22
 have n24 := sumT_len p.l24
 have hl : (p.l7.length : Int) ≤ 1125899906842624 ∧ (p.l13.length : Int) ≤ 1125899906842624 ∧ (p.l18.length : Int) ≤ 1125899906842624 := by have := hs; unfold P.sum at this; omega
 obtain ⟨krW, rW, w1, w2⟩ := sm_all p.a6 p.l7 p.a8 p.a9 q.a6 q.l7 q.a8 q.a9 hl.1
 obtain ⟨krM, rM, m1, m2⟩ := sm_all p.a17 p.l18 p.a19 p.a20 q.a17 q.l18 q.a19 q.a20 hl.2.2
 obtain ⟨krB, rB, b1, b2⟩ := sb_all p.l13 q.l13 hl.2.1
 have hA : (((p.a0 != q.a0) || ((p.a1 != q.a1) || ((p.a2 != q.a2) || ((p.a3 != q.a3) || ((p.a4.toList != q.a4.toList) || ((p.a5 != q.a5) || ((p.a10 != q.a10) || ((p.a11.toList != q.a11.toList) || (p.a12 != q.a12))))))))) = false ∧ ((p.a14 != q.a14) || ((p.a15 != q.a15) || ((p.a16 != q.a16) || ((p.a21 != q.a21) || ((!rW) || ((!rM) || (!rB))))))) = false ∧ p.l22 = q.l22 ∧ p.l23 = q.l23 ∧ p.l24 = q.l24) ↔ Alike p q := by
  simp only [Bool.or_eq_false_iff, bne_eq_false_iff_eq, Bool.not_eq_false', w2, m2, b2]
  constructor
  ·rintro ⟨⟨e0, e1, e2, e3, e4, e5, e10, e11, e12⟩, ⟨e14, e15, e16, e21, ⟨f6, f7, f8, f9⟩, ⟨f17, f18, f19, f20⟩, f13⟩, e22, e23, e24⟩
   exact ⟨e0, e1, e2, e3, toList_inj e4, e5, f6, by rw [f7], f8, f9, e10, toList_inj e11, e12, by rw [f13], e14, e15, e16, f17, by rw [f18], f19, f20, e21, e22, e23, e24⟩
  ·intro h
   exact ⟨⟨h.s0, h.s1, h.s2, h.s3, by rw [h.s4], h.s5, h.s10, by rw [h.s11], h.s12⟩, ⟨h.s14, h.s15, h.s16, h.s21, ⟨h.s6, son_inj hp.1 hq.1 h.s7, h.s8, h.s9⟩, ⟨h.s17, son_inj hp.2.2 hq.2.2 h.s18, h.s19, h.s20⟩, son_inj hp.2.1 hq.2.1 h.s13⟩, h.s22, h.s23, h.s24⟩
 by_cases h : Alike p q
 ·exact ⟨krW, krM, krB, rW, rM, rB, true, w1, m1, b1, ⟨fun _ => hA.2 h, fun _ => rfl⟩, ⟨fun _ => h, fun _ => rfl⟩⟩
 ·exact ⟨krW, krM, krB, rW, rM, rB, false, w1, m1, b1, ⟨fun h' => (by cases h'), fun h' => absurd (hA.1 h') h⟩, ⟨fun h' => (by cases h'), fun h' => absurd h' h⟩⟩
end Go.Proofs.YtndhkgfeknkfdaaGreatDoor.Pk
