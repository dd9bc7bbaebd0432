/- (*Count).Packets of one packet; few; right. -/
import Derived.Test.YtndhkgfeknkfdaaGreatDoorPk0
import Derived.Test.YtndhkgfeknkfdaaGreatDoorMPacketChecksx
namespace Go.Proofs.YtndhkgfeknkfdaaGreatDoor.Pk
open Go.RowKit Go.Proofs.YtndhkgfeknkfdaaGreatDoorW.PrintWords Go.Proofs.YtndhkgfeknkfdaaGreatDoorW.PrintLast Go.Proofs.YtndhkgfeknkfdaaGreatDoorW.PrintMore Go.Proofs.YtndhkgfeknkfdaaGreatDoor.MPacketChecks
set_option linter.unusedVariables false
set_option linter.unusedSimpArgs false
set_option maxHeartbeats 8000000
set_option maxRecDepth 100000
/-- so many parts have been counted, if the count hasn't come to its end -/
def Cn (s s' m : Int) : Prop := s' ≤ s ∧ (0 ≤ s' → 0 ≤ s ∧ s' + m ≤ s)
theorem Cn.trans {s s' s'' m m' : Int} (h : Cn s s' m) (h' : Cn s' s'' m') : Cn s s'' (m + m') := ⟨by have := h.1; have := h'.1; omega, fun hs => by
 obtain ⟨a, b⟩ := h'.2 hs; obtain ⟨c, d⟩ := h.2 a; omega⟩
theorem cn_add (s n : Int) (hs : s ≤ 300000) (h0 : 0 ≤ n) (h1 : n ≤ 4611686018427387904) : ∃ b s', crierroom_Count_Add.f s n = some (b, s') ∧ Cn s s' n := by
 unfold crierroom_Count_Add.f
 by_cases h : s ≥ 0
 ·rw [if_pos h, show wrap64 (s - n) = s - n by unfold wrap64; omega]; exact ⟨_, _, rfl, by omega, fun _ => by omega⟩
 ·rw [if_neg h]; exact ⟨_, _, rfl, by omega, fun _ => by omega⟩
theorem cn_text (s : Int) (a : ByteArray) (hs : s ≤ 300000) (h : (a.size : Int) ≤ 4611686018427387904) : ∃ s', crierroom_Count_Text.f s a = some s' ∧ Cn s s' (1 + a.size) := by
 obtain ⟨b1, s1, e1, c1⟩ := cn_add s 1 hs (by omega) (by omega)
 obtain ⟨b2, s2, e2, c2⟩ := cn_add s1 a.size (by have := c1.1; omega) (by omega) h
 refine ⟨s2, ?_, c1.trans c2⟩
 unfold crierroom_Count_Text.f
 rw [e1]; simp only [Option.bind_some]; rw [e2]; rfl
theorem cn_bytes (s : Int) (l : List Int) (hs : s ≤ 300000) (h : (l.length : Int) ≤ 4611686018427387904) : ∃ s', crierroom_Count_Bytes.f s l = some s' ∧ Cn s s' (1 + l.length) := by
 obtain ⟨b1, s1, e1, c1⟩ := cn_add s 1 hs (by omega) (by omega)
 obtain ⟨b2, s2, e2, c2⟩ := cn_add s1 l.length (by have := c1.1; omega) (by omega) h
 refine ⟨s2, ?_, c1.trans c2⟩
 unfold crierroom_Count_Bytes.f
 rw [e1]; simp only [Option.bind_some]; rw [e2]; rfl
theorem cn_msg (s : Int) (a : ByteArray) (l : List Int) (q : Int) (r : Bool) (hs : s ≤ 300000) (h : (a.size : Int) ≤ 4611686018427387904) (h2 : (l.length : Int) ≤ 4611686018427387904) : ∃ s', crierroom_Count_Message.f s a l q r = some s' ∧ Cn s s' ((1 + a.size) + (1 + l.length)) := by
 obtain ⟨s1, e1, c1⟩ := cn_text s a hs h
 obtain ⟨s2, e2, c2⟩ := cn_bytes s1 l (by have := c1.1; omega) h2
 refine ⟨s2, ?_, c1.trans c2⟩
 unfold crierroom_Count_Message.f
 rw [e1]; simp only [Option.bind_some]; rw [e2]; rfl
def ctA (l : List S82) : Int := l.foldr (fun x s => 1 + (x.f0.size : Int) + s) 0
def ctT (l : List ByteArray) : Int := l.foldr (fun x s => 1 + (x.size : Int) + s) 0
theorem ctA_sum (l : List S82) : sumA l ≤ 3 * ctA l := by
 induction l with
 | nil => simp [sumA, ctA]
 | cons x l ih => simp only [sumA, ctA, List.foldr_cons] at *; omega
theorem ctT_sum (l : List ByteArray) : sumT l ≤ 3 * ctT l := by
 induction l with
 | nil => simp [sumT, ctT]
 | cons x l ih => simp only [sumT, ctT, List.foldr_cons] at *; omega
theorem cn_asks (l : List S82) (hl : ∀ y ∈ l, (y.f0.size : Int) ≤ 4611686018427387904) (hn : (l.length : Int) ≤ 4611686018427387904) (d : Nat) : ∀ (k : Nat) (i s : Int), s ≤ 300000 → 0 ≤ i → i ≤ l.length → (l.length : Int) - i = d → d < k →
  ∃ s', crierroom_Count_Asks.l0 k l i s = some s' ∧ Cn s s' (ctA (l.drop i.toNat)) := by
 induction d with
 | zero =>
  intro k i s hs h0 h1 hd hk
  obtain ⟨k, rfl⟩ : ∃ m, k = m + 1 := ⟨k - 1, by omega⟩
  refine ⟨s, ?_, by omega, fun h => ?_⟩
  ·simp only [crierroom_Count_Asks.l0]; rw [if_neg (by omega)]
  ·rw [List.drop_of_length_le (by omega)]; simp [ctA]; omega
 | succ d ih =>
  intro k i s hs h0 h1 hd hk
  obtain ⟨k, rfl⟩ : ∃ m, k = m + 1 := ⟨k - 1, by omega⟩
  have hlt : i < (l.length : Int) := by omega
  simp only [crierroom_Count_Asks.l0, crierroom_Count_Ok.f]
  rw [if_pos hlt]
  simp only [Option.bind_some]
  by_cases hp : s ≥ 0
  ·rw [if_pos (decide_eq_true hp), if_pos h0]
   obtain ⟨s1, e1, c1⟩ := cn_text s (rd_T82 l i).f0 hs (mem_at (P := fun y => (y.f0.size : Int) ≤ 4611686018427387904) l z82 i h0 hlt hl)
   rw [e1]; simp only [Option.bind_some]
   rw [show wrap64 (i + 1) = i + 1 by unfold wrap64; omega]
   obtain ⟨s2, e2, c2⟩ := ih k (i + 1) s1 (by have := c1.1; omega) (by omega) (by omega) (by omega) (by omega)
   refine ⟨s2, e2, ?_⟩
   rw [drop_at l z82 i h0 hlt]
   exact c1.trans c2
  ·rw [if_neg (by simpa using hp)]
   exact ⟨s, rfl, by omega, fun h => by omega⟩
theorem cn_texts (l : List ByteArray) (hl : ∀ y ∈ l, (y.size : Int) ≤ 4611686018427387904) (hn : (l.length : Int) ≤ 4611686018427387904) (d : Nat) : ∀ (k : Nat) (i s : Int), s ≤ 300000 → 0 ≤ i → i ≤ l.length → (l.length : Int) - i = d → d < k →
  ∃ s', crierroom_Count_Texts.l0 k l i s = some s' ∧ Cn s s' (ctT (l.drop i.toNat)) := by
 induction d with
 | zero =>
  intro k i s hs h0 h1 hd hk
  obtain ⟨k, rfl⟩ : ∃ m, k = m + 1 := ⟨k - 1, by omega⟩
  refine ⟨s, ?_, by omega, fun h => ?_⟩
  ·simp only [crierroom_Count_Texts.l0]; rw [if_neg (by omega)]
  ·rw [List.drop_of_length_le (by omega)]; simp [ctT]; omega
 | succ d ih =>
  intro k i s hs h0 h1 hd hk
  obtain ⟨k, rfl⟩ : ∃ m, k = m + 1 := ⟨k - 1, by omega⟩
  have hlt : i < (l.length : Int) := by omega
  simp only [crierroom_Count_Texts.l0, crierroom_Count_Ok.f]
  rw [if_pos hlt]
  simp only [Option.bind_some]
  by_cases hp : s ≥ 0
  ·rw [if_pos (decide_eq_true hp), if_pos h0]
   obtain ⟨s1, e1, c1⟩ := cn_text s (rdOf ByteArray.empty l i) hs (mem_at (P := fun y => (y.size : Int) ≤ 4611686018427387904) l ByteArray.empty i h0 hlt hl)
   rw [e1]; simp only [Option.bind_some]
   rw [show wrap64 (i + 1) = i + 1 by unfold wrap64; omega]
   obtain ⟨s2, e2, c2⟩ := ih k (i + 1) s1 (by have := c1.1; omega) (by omega) (by omega) (by omega) (by omega)
   refine ⟨s2, e2, ?_⟩
   rw [drop_at l ByteArray.empty i h0 hlt]
   exact c1.trans c2
  ·rw [if_neg (by simpa using hp)]
   exact ⟨s, rfl, by omega, fun h => by omega⟩
/-- each of its texts and lists is one that memory bears -/
structure P.fits (p : P) : Prop where
 b4 : (p.a4.size : Int) ≤ 4611686018427387904
 b6 : (p.a6.size : Int) ≤ 4611686018427387904
 b7 : (p.l7.length : Int) ≤ 4611686018427387904
 b11 : (p.a11.size : Int) ≤ 4611686018427387904
 b13 : (p.l13.length : Int) ≤ 4611686018427387904
 b17 : (p.a17.size : Int) ≤ 4611686018427387904
 b18 : (p.l18.length : Int) ≤ 4611686018427387904
 b22 : (p.l22.length : Int) ≤ 4611686018427387904
 b23 : (p.l23.length : Int) ≤ 4611686018427387904
 b24 : (p.l24.length : Int) ≤ 4611686018427387904
 m22 : ∀ y ∈ p.l22, (y.f0.size : Int) ≤ 4611686018427387904
 m24 : ∀ y ∈ p.l24, (y.size : Int) ≤ 4611686018427387904
theorem cn_packet (p : P) (hf : p.fits) (s : Int) (hs : s ≤ 300000) : ∃ k s', crierroom_Count_Packet.f k s p.a0 p.a1 p.a2 p.a3 p.a4 p.a5 p.a6 p.l7 p.a8 p.a9 p.a10 p.a11 p.a12 p.l13 p.a14 p.a15 p.a16 p.a17 p.l18 p.a19 p.a20 p.a21 p.l22 p.l23 p.l24 = some s' ∧ Cn s s' ((1 + p.a4.size) + (1 + p.a11.size) + (1 + p.l13.length) + ((1 + p.a6.size) + (1 + p.l7.length)) + ((1 + p.a17.size) + (1 + p.l18.length)) + ctA p.l22 + p.l23.length + ctT p.l24) := by
 obtain ⟨s1, e1, c1⟩ := cn_text s p.a4 hs hf.b4
 obtain ⟨s2, e2, c2⟩ := cn_text s1 p.a11 (by have := c1.1; omega) hf.b11
 obtain ⟨s3, e3, c3⟩ := cn_bytes s2 p.l13 (by have := c1.1; have := c2.1; omega) hf.b13
 have h3 : s3 ≤ 300000 := by have := c1.1; have := c2.1; have := c3.1; omega
 obtain ⟨s4, e4, c4⟩ := cn_msg s3 p.a6 p.l7 p.a8 p.a9 h3 hf.b6 hf.b7
 obtain ⟨s5, e5, c5⟩ := cn_msg s4 p.a17 p.l18 p.a19 p.a20 (by have := c4.1; omega) hf.b17 hf.b18
 have h5 : s5 ≤ 300000 := by have := c4.1; have := c5.1; omega
 obtain ⟨s6, e6, c6⟩ := cn_asks p.l22 hf.m22 hf.b22 p.l22.length (p.l22.length + p.l24.length + 1) 0 s5 h5 (by omega) (by omega) (by omega) (by omega)
 obtain ⟨b7, s7, e7, c7⟩ := cn_add s6 p.l23.length (by have := c6.1; omega) (by omega) hf.b23
 obtain ⟨s8, e8, c8⟩ := cn_texts p.l24 hf.m24 hf.b24 p.l24.length (p.l22.length + p.l24.length + 1) 0 s7 (by have := c6.1; have := c7.1; omega) (by omega) (by omega) (by omega) (by omega)
 refine ⟨p.l22.length + p.l24.length + 1, s8, ?_, ((((((c1.trans c2).trans c3).trans c4).trans c5).trans c6).trans c7).trans c8⟩
 unfold crierroom_Count_Packet.f crierroom_Count_Asks.f crierroom_Count_Texts.f
 rw [e1]; simp only [Option.bind_some]
 rw [e2]; simp only [Option.bind_some]
 rw [e3]; simp only [Option.bind_some]
 rw [e4]; simp only [Option.bind_some]
 rw [e5]; simp only [Option.bind_some]
 rw [e6]; simp only [Option.bind_some]
 rw [e7]; simp only [Option.bind_some]
 rw [e8]; rfl
end Go.Proofs.YtndhkgfeknkfdaaGreatDoor.Pk
