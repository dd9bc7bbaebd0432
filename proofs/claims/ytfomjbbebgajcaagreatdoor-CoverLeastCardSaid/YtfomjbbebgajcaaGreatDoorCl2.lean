/- CoverLeast in parts: the count, Room.Texts, the round. -/
import Derived.Test.YtfomjbbebgajcaaGreatDoorCl1
import Derived.Lib.AppendIntMem
import Derived.Test.YtfomjbbebgajcaaGreatDoorRl
namespace Go.Proofs.YtfomjbbebgajcaaGreatDoor.Clc
open Go.RowKit Go.Proofs.YtfomjbbebgajcaaGreatDoorW.PrintWords Go.Proofs.YtfomjbbebgajcaaGreatDoorW.PrintLast Go.Proofs.YtfomjbbebgajcaaGreatDoorW.PrintMore Go.Proofs.YtfomjbbebgajcaaGreatDoor.MCoverLeast
set_option linter.unusedVariables false
set_option linter.unusedSimpArgs false
def Cn (s s' m : Int) : Prop := s' ≤ s ∧ (0 ≤ s' → 0 ≤ s ∧ s' + m ≤ s)
theorem Cn.trans {s s' s'' m m' : Int} (h : Cn s s' m) (h' : Cn s' s'' m') : Cn s s'' (m + m') := ⟨by have := h.1; have := h'.1; omega, fun hs => by
 obtain ⟨a, b⟩ := h'.2 hs; obtain ⟨c, d⟩ := h.2 a; omega⟩
theorem cn_add (s n : Int) (hs : s ≤ 300000) (h0 : 0 ≤ n) (h1 : n ≤ 4611686018427387904) : ∃ b s', crierroom_Count_Add.f s n = some (b, s') ∧ Cn s s' n := by
 unfold crierroom_Count_Add.f
 by_cases h : s ≥ 0
 ·rw [if_pos h, show wrap64 (s - n) = s - n by unfold wrap64; omega]; exact ⟨_, _, rfl, by omega, fun _ => by omega⟩
 ·rw [if_neg h]; exact ⟨_, _, rfl, by omega, fun _ => by omega⟩
theorem cn_text (s : Int) (a : ByteArray) (hs : s ≤ 300000) (h : (a.size : Int) ≤ 4611686018427387904) : ∃ s', crierroom_Count_Text.f s a = some s' ∧ Cn s s' (1 + a.size) := by
 obtain ⟨b1, s1, e1, c1⟩ := cn_add s 1 hs (by omega) (by omega)
 obtain ⟨b2, s2, e2, c2⟩ := cn_add s1 a.size (by have := c1.1; omega) (by omega) h
 refine ⟨s2, ?_, c1.trans c2⟩
 unfold crierroom_Count_Text.f
 rw [e1]; simp only [Option.bind_some]; rw [e2]; rfl
def ctT (l : List ByteArray) : Int := l.foldr (fun x s => 1 + (x.size : Int) + s) 0
theorem mem_at {α : Type} {P : α → Prop} (l : List α) (z : α) (x : Int) (h0 : 0 ≤ x) (h1 : x < l.length) (h : ∀ y ∈ l, P y) : P (l.getD x.toNat z) := by
 have hl : x.toNat < l.length := by omega
 rw [List.getD_eq_getElem?_getD, List.getElem?_eq_getElem hl]; exact h _ (List.getElem_mem hl)

theorem drop_at {α : Type} (l : List α) (z : α) (x : Int) (h0 : 0 ≤ x) (h1 : x < l.length) : l.drop x.toNat = l.getD x.toNat z :: l.drop (x + 1).toNat := by
 have e : (x + 1).toNat = x.toNat + 1 := by omega
 have hl : x.toNat < l.length := by omega
 rw [e, List.drop_eq_getElem_cons hl, List.getD_eq_getElem?_getD, List.getElem?_eq_getElem hl]; rfl
theorem cn_texts (l : List ByteArray) (hl : ∀ y ∈ l, (y.size : Int) ≤ 4611686018427387904) (hn : (l.length : Int) ≤ 4611686018427387904) (d : Nat) : ∀ (k : Nat) (i s : Int), s ≤ 300000 → 0 ≤ i → i ≤ l.length → (l.length : Int) - i = d → d < k →
  ∃ s', crierroom_Count_Texts.l0 k l i s = some s' ∧ Cn s s' (ctT (l.drop i.toNat)) := by
 induction d with
 | zero =>
  intro k i s hs h0 h1 hd hk
  obtain ⟨k, rfl⟩ : ∃ m, k = m + 1 := ⟨k - 1, by omega⟩
  refine ⟨s, ?_, by omega, fun h => ?_⟩
  ·simp only [crierroom_Count_Texts.l0]; rw [if_neg (by omega)]
  ·rw [List.drop_of_length_le (by omega)]; simp [ctT]; omega
 | succ d ih =>
  intro k i s hs h0 h1 hd hk
  obtain ⟨k, rfl⟩ : ∃ m, k = m + 1 := ⟨k - 1, by omega⟩
  have hlt : i < (l.length : Int) := by omega
  simp only [crierroom_Count_Texts.l0, crierroom_Count_Ok.f]
  rw [if_pos hlt]
  simp only [Option.bind_some]
  by_cases hp : s ≥ 0
  ·rw [if_pos (decide_eq_true hp), if_pos h0]
   obtain ⟨s1, e1, c1⟩ := cn_text s (rdOf ByteArray.empty l i) hs (mem_at (P := fun y => (y.size : Int) ≤ 4611686018427387904) l ByteArray.empty i h0 hlt hl)
   rw [e1]; simp only [Option.bind_some]
   rw [show wrap64 (i + 1) = i + 1 by unfold wrap64; omega]
   obtain ⟨s2, e2, c2⟩ := ih k (i + 1) s1 (by have := c1.1; omega) (by omega) (by omega) (by omega) (by omega)
   refine ⟨s2, e2, ?_⟩
   rw [drop_at l ByteArray.empty i h0 hlt]
   exact c1.trans c2
  ·rw [if_neg (by simpa using hp)]
   exact ⟨s, rfl, by omega, fun h => by omega⟩
theorem ctT_len : ∀ l : List ByteArray, (l.length : Int) ≤ ctT l
 | [] => by simp [ctT]
 | x :: l => by
  have h := ctT_len l
  have e : ctT (x :: l) = 1 + (x.size : Int) + ctT l := rfl
  rw [List.length_cons]
  omega
theorem ctT_mem : ∀ (l : List ByteArray) (y : ByteArray), y ∈ l → (y.size : Int) ≤ ctT l
 | [], y, h => by cases h
 | x :: l, y, h => by
  have h0 := ctT_len l
  have e : ctT (x :: l) = 1 + (x.size : Int) + ctT l := rfl
  rcases List.mem_cons.1 h with rfl | h
  ·omega
  ·have := ctT_mem l y h
   omega
/-- the count: if it holds, the list is small -/
theorem cn_all (l : List ByteArray) (hl : ∀ y ∈ l, (y.size : Int) ≤ 4611686018427387904) (hn : (l.length : Int) ≤ 4611686018427387904) : ∃ k r, crierroom_Count_Texts.f k 20000 l = some r ∧ (0 ≤ r → ∀ y ∈ l, y.size ≤ 20000) := by
 obtain ⟨s, e, c⟩ := cn_texts l hl hn l.length (l.length + 1) 0 20000 (by omega) (by omega) (by omega) (by omega) (by omega)
 refine ⟨l.length + 1, s, e, fun h y hy => ?_⟩
 have h1 := (c.2 h).2
 have h2 := ctT_mem l y hy
 simp only [Int.toNat_zero, List.drop_zero] at h1
 omega
/-- two lists that are the same -/
theorem same_l (l : List ByteArray) (hl : (l.length : Int) ≤ 4611686018427387904) : ∀ (d k : Nat) (i : Int), 0 ≤ i → i ≤ l.length → (l.length : Int) - i = d → d < k → crierlaw6_sameTexts.l0 k l l i = some true
 | 0, k, i, h0, h1, hd, hk => by
  obtain ⟨k, rfl⟩ : ∃ m, k = m + 1 := ⟨k - 1, by omega⟩
  rw [crierlaw6_sameTexts.l0, if_neg (by omega)]
 | d + 1, k, i, h0, h1, hd, hk => by
  obtain ⟨k, rfl⟩ : ∃ m, k = m + 1 := ⟨k - 1, by omega⟩
  rw [crierlaw6_sameTexts.l0, if_pos (by omega), if_pos (by omega), if_pos (by omega), if_pos rfl, show wrap64 (i + 1) = i + 1 by unfold wrap64; omega]
  exact same_l l hl d k (i + 1) (by omega) (by omega) (by omega) (by omega)
theorem same_refl (l : List ByteArray) (hl : (l.length : Int) ≤ 4611686018427387904) : crierlaw6_sameTexts.f (l.length + 1) l l = some true := by
 unfold crierlaw6_sameTexts.f
 rw [if_pos rfl]
 exact same_l l hl l.length _ 0 (by omega) (by omega) (by omega) (by omega)
end Go.Proofs.YtfomjbbebgajcaaGreatDoor.Clc
namespace Go.Proofs.YtfomjbbebgajcaaGreatDoor.Rm
open Go.RowKit Go.Proofs.YtfomjbbebgajcaaGreatDoorW.PrintWords Go.Proofs.YtfomjbbebgajcaaGreatDoorW.PrintLast Go.Proofs.YtfomjbbebgajcaaGreatDoorW.PrintMore Go.Proofs.YtfomjbbebgajcaaGreatDoor.MCoverLeast
set_option linter.unusedVariables false
set_option linter.unusedSimpArgs false
set_option maxHeartbeats 4000000
set_option maxRecDepth 100000
/-- (*Room).Texts: a copy with room -/
theorem RTexts_calls (L : Nat → Nat) (base g N : Nat) (A : Option Addr) (c : Nat) (l : List ByteArray) (w0 w : World) (cs : Array Value) (D : Nat → List (Value × Int)) (hR : RoomAt L base w g N cs D) (hB : Below base w0 w) (hr : Kd.C Kd.string w A l.length l) (hc : l.length ≤ c) (hlb : l.length ≤ 536870912) (hN : N ≤ 1073741824) :
  Calls Tryz.prog 7 #[.pointer (some ⟨g, 0, none⟩), .slice A l.length c] w fun e w' => ∃ L' cs' b D', e = .returned (.slice (some ⟨b, 0, none⟩) l.length (l.length + 40)) ∧ RoomAt L' base w' g (N + 1) cs' D' ∧ Mem D' 2 b l.length 40 ∧ Only Room L w L' w' ∧ Below base w0 w' ∧ w.heap.size ≤ b ∧ b < w'.heap.size ∧ L' b = 0 ∧ Firm L' w' (fun W => Kd.C Kd.string W (some ⟨b, 0, none⟩) l.length l) := by
 have HR := Aside0.mk hR; have HB := Aside0.mk hB; have HC := Aside0.mk hr; have HL := Aside0.mk hlb; have HN := Aside0.mk hN; have HCC := Aside0.mk hc
 clear hR hB hr hlb hN hc
 go_enter Tryz.func7, Tryz.ntmps7
 go_wp2_with (go_at_call 15; refine (layTexts_calls L base g N A c l 40 w0 _ cs D HR.out HB.out HC.out HCC.out HL.out (by omega) (by omega) HN.out).mono ?_; rintro e wz ⟨L', cs', b, c', rfl, h⟩; have HZ := Aside0.mk h; clear h)
 go_ret
 exact ⟨L', cs', b, _, rfl, HZ.out.1, ⟨c', put_mem⟩, HZ.out.2⟩
/-- the Book takes a fresh list -/
theorem round_texts {A : Option Addr} {c : Nat} {x : List ByteArray} {base gB k n : Nat} {E : (Nat → Nat) → World → Prop} {seen : Nat → Int} {L : Nat → Nat} {wo W : World} {cs : Array Value} {D : Nat → List Value} {q2 : Kq} {ok : Nat → Prop} (mk : Int)
  (hB : Bq base gB E k 0 seen L wo (4 * k) cs D q2) (hf : q2.fs = [] ∧ q2.fr = []) (hs : 0 ≤ seen 2 ∧ seen 2 ≤ (k : Int)) (hk : k < 3) (hE : Stb Ya E) (hT : ∀ L W, E L W → Lib.TabIs Tryz.prog W "internal/strconv.uint64pow10" .u64 Lib.pow10Tab) (hbn : base ≤ wo.heap.size) (hn : wo.heap.size ≤ n) (hb : Below wo.heap.size wo W)
  (hr : Kd.string.R 9 W n ok (.slice A x.length c) x) (hc : x.length ≤ c) (hl : x.length ≤ 1000000) :
  Calls Tryz.prog 11 #[.pointer (some ⟨gB, 0, none⟩), .slice A x.length c, .int .i64 mk] W fun e w' => e = .returned (.tuple #[]) ∧ ∃ L' cs' D' q2' seen', Bq base gB E ((k + 1 : Nat) : Int) 0 seen' L' w' (4 * (k + 1)) cs' D' q2' ∧ (q2'.fs = [] ∧ q2'.fr = []) ∧ 0 ≤ seen' 2 ∧ seen' 2 ≤ ((k + 1 : Nat) : Int) := by
 have h0 : Bq base gB E k 0 seen (tyL n W L) W (4 * k) cs D q2 := hB.news hE hb (fun j hj => if_pos (Nat.lt_of_lt_of_le hj hn))
 have h1 : Bq base gB (fun L W => Ls Kd.string 9 base 1002 L W (.slice A x.length c) x ∧ E L W) k 0 seen (tyL n W L) W (4 * k) cs D q2 := h0.put ⟨ls_new hr (Nat.le_trans hbn hn), h0.ext⟩
 refine (Bq.addTexts_0 h1 hf hE hT mk (by omega) (by omega) hs.1 (by omega) (by omega) hc (by omega) (fun p hp => by obtain ⟨_, _, h, _⟩ := hB.b.F.1.wn p hp; exact ap_new hr h hn) (fun p hp => by obtain ⟨_, _, h, _⟩ := hB.b.F.1.ot p hp; exact ap_new hr h hn)).mono ?_
 rintro e w' ⟨rfl, L', cs', D', q2', b, f⟩
 refine ⟨rfl, L', cs', D', q2', (fun q => if q = 2 then seen 2 + 1 else seen q), ?_, f, ?_, ?_⟩
 ·have e1 : ((k + 1 : Nat) : Int) = (k : Int) + 1 := by omega
  have e2 : 4 * (k + 1) = 4 * k + 4 := by omega
  rw [e1, e2]
  exact b
 ·show 0 ≤ (if 2 = 2 then seen 2 + 1 else seen 2)
  rw [if_pos rfl]; omega
 ·show (if 2 = 2 then seen 2 + 1 else seen 2) ≤ _
  rw [if_pos rfl]; omega
end Go.Proofs.YtfomjbbebgajcaaGreatDoor.Rm
/- crierlaw6.CoverLeast: it answers true. -/
namespace Go.Proofs.YtfomjbbebgajcaaGreatDoor.Rm
open Go.RowKit Go.Proofs.YtfomjbbebgajcaaGreatDoorW.PrintWords Go.Proofs.YtfomjbbebgajcaaGreatDoorW.PrintLast Go.Proofs.YtfomjbbebgajcaaGreatDoorW.PrintMore Go.Proofs.YtfomjbbebgajcaaGreatDoor.MCoverLeast
open Go.Proofs.YtfomjbbebgajcaaGreatDoorW.PrintWords.Aside0 renaming mk → am
set_option linter.unusedVariables false
set_option linter.unusedSimpArgs false
set_option maxHeartbeats 4000000
set_option maxRecDepth 100000
theorem drawn_b {w w' : World} (h : Drawn0 w w') : Below w.heap.size w w' := by
 obtain ⟨n, rfl⟩ := h.out
 exact pw_below_drewN (Below.refl _ _) n
section
variable {base gB b n i : Nat} {w0 w6 : World} {tl : List Value} {bd : Nat} {A1 : Option Addr} {c1 : Nat} {x : List ByteArray} {turn : Int} {seen : Nat → Int} {L : Nat → Nat} {w : World} {N : Nat} {cs : Array Value} {D : Nat → List Value} {q2 : Kq}
/-- an element of the noted list -/
theorem round_now {j : Nat} {s : ByteArray} (hB : Bq base gB (fun L W => (Keep base w0 w6 (labg gB b) L W ∧ In1 b n tl bd L W) ∧ Cpy Kd.string (.slice A1 x.length c1) x L W) turn 0 seen L w N cs D q2) (hj : x[j]? = some s) (hp : 0 < x.length) : ∃ ad, A1 = some ad ∧ w.cell? (ad.add j) = some (.string s) := by
 obtain ⟨A, c, e, hc, hf⟩ := hB.ext.2
 injection e with e1 _ e2
 subst e1
 obtain ⟨ad, e, h⟩ := (hf _ _ (Soft.refl _ _)).2.2 hp
 obtain ⟨c', h1, h2, h3⟩ := h j s hj
 obtain rfl : c' = [.string s] := h2
 have h4 := h3 0 _ rfl
 rw [show j * Kd.string.sz + 0 = j from Nat.mul_one j] at h4
 exact ⟨ad, e, h4⟩
/-- the place that is written -/
theorem round_cell (hB : Bq base gB (fun L W => (Keep base w0 w6 (labg gB b) L W ∧ In1 b n tl bd L W) ∧ Cpy Kd.string (.slice A1 x.length c1) x L W) turn 0 seen L w N cs D q2) (hi : i < n) : ∃ v, w.cell? ⟨b, i, none⟩ = some v ∧ w.frozen? ⟨b, i, none⟩ = false := by
 obtain ⟨⟨_, z, hz, _⟩, _⟩ := hB.ext
 obtain ⟨cur, a1, a2, _, _⟩ := hz.ex
 have h : i < cur.size := by
  have e : n * Kd.string.sz = n := Nat.mul_one n
  rw [e] at a2
  omega
 exact ⟨cur[i], by rw [blk_cell a1, Array.getElem?_eq_getElem h], blk_frozen a1 i⟩
/-- a place of the lent list is written -/
theorem round_store (hB : Bq base gB (fun L W => (Keep base w0 w6 (labg gB b) L W ∧ In1 b n tl bd L W) ∧ Cpy Kd.string (.slice A1 x.length c1) x L W) turn 0 seen L w N cs D q2) (hi : i < n) {s : ByteArray} (hs : s.size ≤ bd) : Bq base gB (fun L W => (Keep base w0 w6 (labg gB b) L W ∧ In1 b n tl bd L W) ∧ Cpy Kd.string (.slice A1 x.length c1) x L W) turn 0 seen L (w.setCell ⟨b, i, none⟩ (.string s)) N cs D q2 := by
 obtain ⟨⟨hk, z, hz, hy⟩, hc⟩ := hB.ext
 obtain ⟨cur, a1, a2, a3, a4⟩ := hz.ex
 have h1 := One.cell w b i (.string s)
 have ho : Only Spl L w L (w.setCell ⟨b, i, none⟩ (.string s)) := (on_one h1 hz.lab).mono (fun x hx => by have h : x = 824 := hx; unfold Spl; omega)
 refine hB.spl ho (s3_one h1) ⟨⟨Keep.stb spl_0 _ _ _ _ hk ho.chg (s3_one h1), z.set i s, Lnt.set_ (fun _ _ _ _ h => h : Fl Kd.string) hz a1 hi (show Kd.string.K w s [.string s] from rfl) (lnt_set1 a1 _), fun y h => ?_⟩, hc.step ho spl_0⟩
 rcases List.mem_or_eq_of_mem_set h with h | rfl
 ·exact hy y h
 ·exact hs
end
theorem CoverLeast_calls (A : Option Addr) (c : Nat) (l : List ByteArray) (w : World) (hT : Lib.TabIs Tryz.prog w "internal/strconv.uint64pow10" .u64 Lib.pow10Tab) (hr : Kd.C Kd.string w A l.length l) (hc : l.length ≤ c) (hl : ∀ y ∈ l, (y.size : Int) ≤ 4611686018427387904) (hn : (l.length : Int) ≤ 4611686018427387904) :
  Calls Tryz.prog 3 #[.slice A l.length c] w fun e w' => e = .returned (.bool true) ∧ Below w.heap.size w w' := by
 obtain ⟨kc, r, hcn, hsm⟩ := Clc.cn_all l hl hn
 have HT := am hT; have HC := am hr; have HCC := am hc; have HN := am hn; have HCN := am hcn; have HSM := am hsm; have HB := am (Below.refl w.heap.size w)
 clear hT hr hc hl hn hcn hsm
 go_enter Tryz.func3, Tryz.ntmps3
 go_wp2_with fail
 refine (crierroom_Many.calls 20000 20000 w _ HB.out rfl).mono ?_
 rintro e w1 ⟨gc, rfl, hi, hb, hb2⟩
 have HI := am hi; clear HB hi hb2; have HB := am hb; clear hb
 go_wp2_with fail
 refine (crierroom_Count_Texts.calls kc gc 20000 A c l r w _ HI.out HB.out (Kd.C_below HC.out HB.out) HCC.out (fun ad e hp => by subst e; have h1 := Kd.C_lt HC.out hp (by decide); have h2 := HI.out.2; omega) HCN.out).mono ?_
 rintro e w2 ⟨rfl, hi, hb, hk⟩
 have n0_ := am hi; clear HI HB hi hk; have HI := n0_; have HB := am hb; clear n0_ hb
 go_wp2_with fail
 refine (crierroom_Count_Ok.calls gc r _ _ w _ HI.out HB.out rfl).mono ?_
 rintro e w3 ⟨rfl, hi, hb, hk⟩
 clear HI HB hi hk; have HB := am hb; clear hb HCN
 by_cases h0 : r ≥ 0
 case neg =>
  rw [show decide (r ≥ 0) = false from decide_eq_false h0]; clear h0
  go_wp2; go_ret; exact ⟨rfl, HB.out⟩
 rw [show decide (r ≥ 0) = true from decide_eq_true h0]; have H0 := am h0; clear h0
 by_cases h40 : (40 : Int) < (l.length : Int)
 ·go_wp2; go_ret; exact ⟨rfl, HB.out⟩
 have H40 := am h40
 go_upto_region 6 with (first | ((with_reducible refine gate_dst (N := 24) rfl ?_); refine box_event ?hg24 (N := 24) ?hd24 (cs := #[.slice none 0 0, .slice none 0 0, .slice none 0 0, .slice none 0 0, .slice none 0 0, .slice none 0 0, .slice none 0 0, .slice none 0 0, .slice none 0 0, .slice none 0 0, .slice none 0 0, .slice none 0 0, .slice none 0 0, .slice none 0 0, .slice none 0 0, .slice none 0 0, .slice none 0 0, .slice none 0 0, .slice none 0 0, .slice none 0 0, .slice none 0 0, .slice none 0 0, .slice none 0 0, .slice none 0 0, .slice none 0 0, .slice none 0 0, .slice none 0 0, .slice none 0 0, .slice none 0 0, .slice none 0 0, .slice none 0 0, .slice none 0 0, .slice none 0 0, .slice none 0 0]) (t := 47) ?hr24 ?_; (case hd24 => rfl); (case hg24 => rfl); (case hr24 => first | (go_simp; done) | (go_simp; rfl)); intro g5 hg w5_ hbox hb; have H5 := am hbox; have G5 := am (show w.heap.size ≤ g5 by rw [hg]; exact HB.out.size); have n0_ := am (below_step HB.out hb); clear HB; have HB := n0_; clear n0_; clear hbox hb hg) | ((with_reducible refine gate_dst (N := 25) rfl ?_); refine val_list rfl (zBook_run _ _ _ rfl) ?_) | ((with_reducible refine gate_dst (N := 26) rfl ?_); refine box_event rfl (N := 26) rfl (cs := zBook) (t := 55) (zBook_box _ _ (.tmp 25) _ rfl rfl) ?_; intro gB hg wo hbox hb; have HZ := am hbox; have GB := am (show g5 < gB by rw [hg]; exact blk_lt H5.out); have n2_ := am (blk_below H5.out hb); have n0_ := am (below_step HB.out hb); clear HB; have HB := n0_; clear n0_; clear H5; have H5 := n2_; clear n2_ hbox hb hg))
 clear h40
 try simp only [Act.put, List.setIfInBounds_toArray, List.set_cons_zero, List.set_cons_succ]
 obtain ⟨L5, hL5⟩ : ∃ z : Nat → Nat, z = fun k => if k = g5 then 99 else if k = gB then 399 else 0 := ⟨_, rfl⟩
 have HBs : Bs w L5 wo := ⟨fun k hk => by rw [hL5]; dsimp only; have h1 := G5.out; have h2 := GB.out; rw [if_neg (by omega), if_neg (by omega)], HB.out⟩
 have HRM := am (room_nil HBs ⟨H5.out, by rw [hL5]; exact if_pos rfl⟩ G5.out)
 have L5B := am (show L5 gB = 399 by rw [hL5]; dsimp only; have h2 := GB.out; rw [if_neg (by omega), if_pos rfl])
 clear HBs H5 hL5
 go_upto_region 7 with (first | (go_at_call 7; (refine (RTexts_calls L5 w.heap.size g5 0 A c l w _ _ _ HRM.out HB.out (Kd.C_below HC.out HB.out) HCC.out (by have := H40.out; omega) (by omega)).mono ?_; rintro e w6_ ⟨Lp, csp, b, Dp, rfl, hA, hM, hO, hb, hge, hlt, hl0, hF⟩; have n3_ := am ((hO.keep gB (blk_lt HZ.out) (by rw [L5B.out]; unfold Room; omega)).trans HZ.out); have HLB := am ((hO.lab gB (blk_lt HZ.out)).trans L5B.out); have GBB := am (show gB < b from Nat.lt_of_lt_of_le (blk_lt HZ.out) hge); have BLT := am hlt; have HM := am hM; have HFC := am (hF _ _ (Soft.refl _ _)); clear HRM HB HZ L5B; have HRM := am hA; have HB := am hb; have HZ := n3_; clear n3_ hA hM hO hb hge hlt hl0 hF)))
 obtain ⟨tl, hi1⟩ := in1_start (gB := gB) (bd := 20000) HRM.out GBB.out HM.out HFC.out (by have := H40.out; omega) (HSM.out H0.out)
 have HI1 := am hi1; clear hi1 HFC HSM H0
 have HCQ := am (show w.heap.size ≤ g5 ∧ g5 < gB ∧ gB < b from ⟨G5.out, GB.out, GBB.out⟩)
 have HK : Aside0 (Keep w.heap.size w w6_ (labg gB b) (labg gB b) w6_) := ⟨⟨Nat.le_refl _, fun k hk e => ⟨rfl, e⟩, s3_below HB.out, HB.out, HB.out.size, fun k hk => by have h1 := HCQ.out; unfold labg; (repeat' split) <;> omega⟩⟩
 obtain ⟨n, hn⟩ : ∃ n, n = l.length := ⟨_, rfl⟩; have HN40 := am (show n ≤ 40 by have := H40.out; omega); rw [← hn] at HI1 HM ⊢; clear hn
 have HQ0 : Aside0 (Bq w.heap.size gB (fun L W => Keep w.heap.size w w6_ (labg gB b) L W ∧ In1 b n tl (20000 + 0 * 2) L W) 0 0 (fun _ => 0) (labg gB b) w6_ 0 zBook (fun _ => []) Kq.nil) := ⟨Bq.zero HZ.out (if_pos rfl) (by have h1 := HCQ.out; omega) rfl zBook_slot zBook_sc ⟨HK.out, HI1.out.more (by omega)⟩⟩
 have HEE : ∀ m : Nat, Aside0 (Stb Ya (fun L W => Keep w.heap.size w w6_ (labg gB b) L W ∧ In1 b n tl (20000 + m * 2) L W)) := fun m => ⟨Stb.and (Keep.stb ya_0) (In1.stb ya_spl)⟩
 have HTE : ∀ m : Nat, Aside0 (∀ L W, (fun L W => Keep w.heap.size w w6_ (labg gB b) L W ∧ In1 b n tl (20000 + m * 2) L W) L W → Lib.TabIs Tryz.prog W "internal/strconv.uint64pow10" .u64 Lib.pow10Tab) := fun m => ⟨fun L W h => Lib.tabBelow_of_tabIs HT.out _ h.1.below⟩
 clear HK HZ HB HC HCC HN H40 GB G5 GBB BLT HT
 go_wp2
 go_loopw [7] (fun i wr => ∃ k : Nat, k ≤ 3 ∧ i = .int .i64 k ∧ Aside0 (∃ L cs D q2 seen, Bq w.heap.size gB (fun L W => Keep w.heap.size w w6_ (labg gB b) L W ∧ In1 b n tl (20000 + k * 2) L W) k 0 seen L wr (4 * k) cs D q2 ∧ (q2.fs = [] ∧ q2.fr = []) ∧ 0 ≤ seen 2 ∧ seen 2 ≤ (k : Int))) (fun i _ => 3 - (intOf i).toNat)
 case atStart => exact ⟨0, by omega, rfl, ⟨_, _, _, _, _, HQ0.out, ⟨rfl, rfl⟩, by decide, by decide⟩⟩
 case round =>
  clear HQ0
  obtain ⟨k, hk, rfl, hq_⟩ := hrel
  obtain ⟨wo, hwo⟩ : ∃ x, x = wr := ⟨_, rfl⟩; subst hwo
  by_cases hlt : k < 3
  ·skip
   obtain ⟨L, cs, D, q2, seen, hB, hf, hs⟩ := hq_.out
   obtain ⟨hkp, x, ix, hby⟩ := hB.ext
   obtain rfl : x.length = n := ix.len
   have HXC := am (show Kd.string.C wo (some ⟨b, 0, none⟩) x.length x from ix.C_); have HBY := am hby; have W0 := am hkp.below.size
   have HQK := am hB; have HFS := am hf; have HSN := am hs; have HLT := am hlt; have HBO := am (Below.refl wo.heap.size wo)
   clear hq_ hB hf hs hkp ix hby hlt hk
   have hlt_ : (k : Int) < 3 := by have := HLT.out; omega
   go_upto_region 11 with (first | ((with_reducible refine gate_builtin (b := .append) (xs := #[.const (.slice none 0 0), .tmp 34]) rfl ?_); at_builtin; (refine Kd.R_append_rows Kd.string (w0 := wo) wo.heap.size rfl (.const (.slice none 0 0)) (.tmp 34) 22 9 (.string ⟨#[]⟩) 16 rfl Tryz.underlying22 info9 rfl (by decide) (by omega) (.slice none 0 0) [] x _ _ _ (fun _ => True) (fun _ => False) rfl rfl (Kd.R_nil _ _ _ _ _) HXC.out (fun _ _ h => h) (fun _ h => h.elim) (fun _ _ => trivial) HBO.out (Nat.le_refl _) ?aL ?_; (case aL => simp; have := HN40.out; omega); intro v1 w1_ ho hb hg hat; rw [List.nil_append] at ho; obtain ⟨A1, c1, rfl⟩ := Kd.R_slice ho; have HO1 := am ho; have HB1 := am hb; clear ho hb hg hat)))
   have HEC : Aside0 (Stb Ya (fun L W => (Keep w.heap.size w w6_ (labg gB b) L W ∧ In1 b x.length tl (20000 + k * 2) L W) ∧ Cpy Kd.string (.slice A1 x.length c1) x L W)) := ⟨Stb.and (HEE k).out (fun L w L' w' hh c s => hh.soft_ (c.soft ya_0))⟩
   have n0_ : Bq w.heap.size gB (fun L W => (Keep w.heap.size w w6_ (labg gB b) L W ∧ In1 b x.length tl (20000 + k * 2) L W) ∧ Cpy Kd.string (.slice A1 x.length c1) x L W) k 0 seen (lab1 L wo.heap.size 0) w1_ (4 * k) cs D q2 := (HQK.out.new (HEE k).out 0 HB1.out).put ⟨(HQK.out.new (HEE k).out 0 HB1.out).ext, firm_R (L := L) HO1.out (fun _ _ _ _ h => h)⟩
   generalize lab1 L wo.heap.size 0 = L1 at n0_; clear HQK; have HQK := am n0_; clear n0_
   have W1 := am (Nat.le_trans W0.out HB1.out.size); have n1_ := am (Kd.C_below HXC.out HB1.out); have HNC := am (Kd.R_reads' HO1.out).2.2; have HN1 := am (Kd.R_reads' HO1.out).2.1; clear HXC HBO HO1 HB1; have HXC := n1_; have HBO := am (Below.refl w1_.heap.size w1_); clear n1_
   obtain ⟨y, hy⟩ : ∃ y, y = Giv.leastGo x.length x := ⟨_, rfl⟩; have HYL := am (show y.length ≤ x.length by rw [hy]; exact Giv.leastGo_len x); have HYR := am (show crierref6_Least.f 10000000000 x = some y by rw [hy]; exact Giv.rLeast x (by have := HN40.out; omega) (fun z hz => by have h1 := HBY.out z hz; have h2 := HLT.out; omega) _ (by have h1 := HN40.out; have h2 : x.length * (50000010 + x.length) ≤ 40 * (50000010 + 40) := Nat.mul_le_mul h1 (by omega); omega))
   go_upto_region 12 with (first | (go_at_call 8; (refine (Giv.cover_Least.calls (some ⟨b, 0, none⟩) (x.length + 40) x (Giv.leastGo x.length x) _ HXC.out (by omega) (by unfold Giv.cover_Least.f; rw [if_pos ⟨by have := HN40.out; unfold Giv.big; omega, fun y hy => by have h1 := HBY.out y hy; have h2 := HLT.out; unfold Giv.big; omega⟩])).mono ?_; rintro e w2_ ⟨v2, rfl, hR, hb⟩; obtain ⟨A2, c2, rfl⟩ := Kd.R_slice hR; have HR2 := am hR; clear HBO; have HBO := am hb; clear hR hb)))
   rw [← hy] at HR2 ⊢; clear hy
   have HNC2 := am (Kd.C_below HNC.out HBO.out); have HXC2 := am (Kd.C_below HXC.out HBO.out); have HYC := am (Kd.R_reads' HR2.out).2.2; have HYN := am (Kd.R_reads' HR2.out).2.1; have HB2 := am (Below.refl w2_.heap.size w2_)
   go_upto_region 14 with (first | (go_at_call 10; (refine (crierref6_Least.calls 10000000000 A1 c1 x y _ HNC2.out HN1.out HYR.out).mono ?_; rintro e w3_ ⟨v3, rfl, hR, hb⟩; obtain ⟨A3, c3, rfl⟩ := Kd.R_slice hR; have HR3 := am hR; clear HB2; have HB2 := am hb; clear hR hb)) | (go_at_call_of 9 A2; (refine (crierlaw6_sameTexts.calls (y.length + 1) A2 c2 y A3 c3 y true _ (Kd.C_below HYC.out HB2.out) HYN.out (Kd.R_reads' HR3.out).2.2 (Kd.R_reads' HR3.out).2.1 (Clc.same_refl y (by have h1 := HYL.out; have h2 := HN40.out; omega))).mono ?_; rintro e w4_ ⟨rfl, hd⟩; have n0_ := am (below_step HB2.out (drawn_b hd)); clear HB2 HR3; have HB2 := n0_; clear n0_ hd)) | (go_at_call_of 9 b; (refine (crierlaw6_sameTexts.calls (x.length + 1) (some ⟨b, 0, none⟩) (x.length + 40) x A1 c1 x true _ (Kd.C_below HXC2.out HB2.out) (by omega) (Kd.C_below HNC2.out HB2.out) HN1.out (Clc.same_refl x (by have h2 := HN40.out; omega))).mono ?_; rintro e w5_ ⟨rfl, hd⟩; have n0_ := am (below_step HB2.out (drawn_b hd)); clear HB2; have HB2 := n0_; clear n0_ hd)))
   have HTC : Aside0 (∀ L W, (fun L W => (Keep w.heap.size w w6_ (labg gB b) L W ∧ In1 b x.length tl (20000 + k * 2) L W) ∧ Cpy Kd.string (.slice A1 x.length c1) x L W) L W → Lib.TabIs Tryz.prog W "internal/strconv.uint64pow10" .u64 Lib.pow10Tab) := ⟨fun L W h => (HTE k).out L W h.1⟩
   go_upto_region 15 with (first | (go_at_call 11; (refine (round_texts _ HQK.out HFS.out HSN.out HLT.out HEC.out HTC.out W1.out (Nat.le_refl _) (below_step HBO.out HB2.out) (Kd.R_below HR2.out HB2.out) HYN.out (by have h1 := HYL.out; have h2 := HN40.out; omega)).mono ?_; rintro e wp_ ⟨rfl, L2, cs2, D2, p2, se2, hb, hf, hs1, hs2⟩; have HQN := am hb; have HFN := am hf; have HSM := am (And.intro hs1 hs2); clear hb hf hs1 hs2)))
   clear HQK HFS HSN HXC HNC HBO HR2 HNC2 HXC2 HYC HYN HB2 HYR HYL HTC W1 W0
   go_upto_region 17 with (go_at_call 12; (refine (Bq.Hold HQN.out HEC.out (by have := HLT.out; omega)).mono ?_; rintro e wh_ ⟨rfl, hb⟩; have n0_ := HQN.out.new HEC.out 0 hb; have HQH := am (n0_.imp (E' := (fun L W => (Keep w.heap.size w w6_ (labg gB b) L W ∧ In1 b x.length tl (20000 + (k + 1) * 2) L W) ∧ Cpy Kd.string (.slice A1 x.length c1) x L W)) (fun L W h => ⟨⟨h.1.1, h.1.2.more (by omega)⟩, h.2⟩)); clear n0_ hb))
   clear HQN; generalize lab1 L2 wp_.heap.size 0 = L3 at HQH
   go_wp2
   go_loopw [10] (fun i wr => ∃ j : Nat, j ≤ x.length ∧ i = .int .i64 j ∧ Aside0 (∃ L, Bq w.heap.size gB (fun L W => (Keep w.heap.size w w6_ (labg gB b) L W ∧ In1 b x.length tl (20000 + (k + 1) * 2) L W) ∧ Cpy Kd.string (.slice A1 x.length c1) x L W) ((k + 1 : Nat) : Int) 0 se2 L wr (4 * (k + 1)) cs2 D2 p2)) (fun i _ => x.length - (intOf i).toNat)
   case atStart => exact ⟨0, by omega, rfl, ⟨_, HQH.out⟩⟩
   case round =>
    clear HQH
    obtain ⟨j, hj, rfl, hq_⟩ := hrel
    obtain ⟨wi, hwi⟩ : ∃ x, x = wr := ⟨_, rfl⟩; subst hwi
    obtain ⟨Li, hQi⟩ := hq_.out; clear hq_; have HQI := am hQi; clear hQi
    by_cases hjx : j < x.length
    case neg =>
     have hj1 : ¬ (j : Int) < (x.length : Int) := by omega
     go_wp2
     go_roundw
     case rel => exact ⟨k + 1, by have := HLT.out; omega, by go_num, ⟨_, cs2, D2, p2, se2, HQI.out.imp (fun _ _ h => h.1), HFN.out, HSM.out⟩⟩
     case measure => have := HLT.out; simp [intOf]; omega
    have hj1 : (j : Int) < (x.length : Int) := by omega
    by_cases hk0 : (0 : Int) < (k : Int)
    case neg =>
     go_wp2
     go_roundw
     case rel => exact ⟨k + 1, by have := HLT.out; omega, by go_num, ⟨_, cs2, D2, p2, se2, HQI.out.imp (fun _ _ h => h.1), HFN.out, HSM.out⟩⟩
     case measure => have := HLT.out; simp [intOf]; omega
    obtain ⟨s, hxs⟩ : ∃ s, x[x.length - 1 - j]? = some s := ⟨_, List.getElem?_eq_getElem (by omega)⟩
    have HSS := am (show s.size ≤ 20000 + k * 2 from HBY.out s (List.mem_of_getElem? hxs))
    obtain ⟨aw, e_, hcs⟩ := round_now HQI.out hxs (by omega); subst e_
    obtain ⟨v_, hcv, hfv⟩ := round_cell HQI.out hjx
    have hsz : (9223372036854775807 < s.size + 2) = False := by have h1 := HSS.out; have h2 := HLT.out; simp; omega
    have HJX := am hjx; have HXS := am hxs; clear hxs hjx hj
    have e1_ : wrap64 ((x.length : Int) - 1) = ((x.length - 1 : Nat) : Int) := by have h1 := HN40.out; have h2 := HJX.out; unfold wrap64; omega
    have e2_ : wrap64 (((x.length - 1 : Nat) : Int) - (j : Int)) = ((x.length - 1 - j : Nat) : Int) := by clear e1_; have h1 := HN40.out; have h2 := HJX.out; unfold wrap64; omega
    have b1_ : ((x.length - 1 - j : Nat) : Int) < (x.length : Int) := by clear e1_ e2_; have h2 := HJX.out; omega
    have b2_ : (0 : Int) ≤ ((x.length - 1 - j : Nat) : Int) := Int.natCast_nonneg _
    go_upto_region 19 with (fail)
    clear e1_ e2_ b1_ b2_ hsz hcv hfv hcs
    have HQJ := am (round_store HQI.out HJX.out (s := s ++ ⟨#[47, 97]⟩) (by have h1 := HSS.out; rw [ByteArray.size_append]; show s.size + 2 ≤ _; omega))
    have hjb : (j : Int) < 40 := by have h1 := HN40.out; have h2 := HJX.out; omega
    go_wp2
    go_roundw
    case rel => exact ⟨j + 1, by have := HJX.out; omega, by go_num, ⟨_, HQJ.out⟩⟩
    case measure => have := HJX.out; simp [intOf]; omega
  ·obtain rfl : k = 3 := by omega
   obtain ⟨L, cs, D, q2, seen, hB, hf, hs⟩ := hq_.out
   have HX := am hB.ext; have HRB := am (room_back HRM.out HLB.out HM.out HI1.out hB.ext.2 hB.ext.1); clear hB hf hs hq_
   go_wp2_with (go_at_call 13; (refine (rHold_calls Lp w.heap.size g5 _ _ csp Dp HRB.out (by omega)).mono ?_; rintro e x_ ⟨rfl, hb⟩; have HLAST := am (below_step HX.out.1.below hb); clear hb))
   go_ret
   exact ⟨rfl, HLAST.out⟩
end Go.Proofs.YtfomjbbebgajcaaGreatDoor.Rm
