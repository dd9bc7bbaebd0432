/- What the printed functions of the reference (crierref5, crierref6) compute, part 2: joins, shared filters, matching, and the steps of its search. -/
import Derived.Test.YtamelcgamlcliaaRb
import Derived.Test.YtamelcgamlcliaaMee
import Derived.Test.YtamelcgamlcliaaLCoverTwox7
import Derived.Test.YtamelcgamlcliaaLCoverTwox5
namespace Go.Proofs.Ytamelcgamlcliaa.Giv
open Go.RowKit Go.Proofs.YtamelcgamlcliaaW.PrintWords Go.Proofs.YtamelcgamlcliaaW.PrintLast Go.Proofs.YtamelcgamlcliaaW.PrintMore Go.Proofs.Ytamelcgamlcliaa.MCoverTopics Go.Proofs.Ytamelcgamlcliaa.LCoverTwo
set_option linter.unusedVariables false
set_option linter.unusedSimpArgs false

/-! Join -/
theorem join_snoc : ∀ (l : List Cr.T) (x : Cr.T), l ≠ [] → Cr.join (l ++ [x]) = Cr.join l ++ 47 :: x
 | [], x, h => absurd rfl h
 | [a], x, _ => rfl
 | a :: b :: l, x, _ => by
  have h1 : Cr.join (a :: (b :: l ++ [x])) = a ++ 47 :: Cr.join (b :: l ++ [x]) := Cr.join_cons _ _ (by simp)
  have h2 : Cr.join (a :: b :: l) = a ++ 47 :: Cr.join (b :: l) := Cr.join_cons _ _ (by simp)
  have h3 := join_snoc (b :: l) x (by simp)
  show Cr.join (a :: (b :: l ++ [x])) = _
  rw [h1, h3, h2, List.append_assoc]; rfl
def B (t : Cr.T) : List Int := t.map fun b => (b.toNat : Int)
theorem bytesOf_B (s : ByteArray) : bytesOf s = B (Cr.bl s) := rfl
theorem strOfNums_B (t : Cr.T) : strOfNums (B t) = ofT t := by
 unfold strOfNums B ofT
 congr 2
 rw [List.map_map]
 conv => rhs; rw [← List.map_id t]
 refine List.map_congr_left (fun b _ => UInt8.toNat_inj.1 ?_)
 simp
theorem LL_take (a : List ByteArray) (i : Nat) : LL (a.take i) = (LL a).take i := by simp [LL, List.map_take]
theorem LL_take_snoc {l : List ByteArray} {i : Nat} (h : i < l.length) : LL (l.take (i + 1)) = LL (l.take i) ++ [Cr.bl l[i]] := by
 have h2 : l.take (i + 1) = l.take i ++ [l[i]] := by rw [List.take_add_one, List.getElem?_eq_getElem h]; rfl
 rw [h2]; unfold LL; rw [List.map_append]; rfl
theorem wt_take {l : List ByteArray} (i : Nat) : wt (LL (l.take i)) ≤ wt (LL l) := by
 have h := wt_append (LL (l.take i)) (LL (l.drop i))
 have h2 : LL (l.take i) ++ LL (l.drop i) = LL l := by rw [LL_take, LL_drop, List.take_append_drop]
 rw [h2] at h; omega
theorem B_len (t : Cr.T) : (B t).length = t.length := List.length_map _
theorem rJoin_l (l : List ByteArray) (hw : wt (LL l) ≤ 1000000000) : ∀ (d i k : Nat), l.length - i = d → i ≤ l.length → d < k → crierref5_Join.l0 k l (B (Cr.join (LL (l.take i)))) (i : Int) = some (joinB l) := by
 have hlw := wt_len (LL l)
 rw [LL_len] at hlw
 intro d
 induction d with
 | zero =>
  intro i k hd hi hk
  obtain ⟨k, rfl⟩ : ∃ m, k = m + 1 := ⟨k - 1, by omega⟩
  rw [crierref5_Join.l0, if_neg (by omega), List.take_of_length_le (by omega), strOfNums_B]; rfl
 | succ d ih =>
  intro i k hd hi hk
  obtain ⟨k, rfl⟩ : ∃ m, k = m + 1 := ⟨k - 1, by omega⟩
  have hil : i < l.length := by omega
  have step := ih (i + 1) k (by omega) (by omega) (by omega)
  have h1 := wt_take (l := l) i
  have h2 := wt_take (l := l) (i + 1)
  have h3 := wt_join (LL (l.take i))
  have h4 := LL_take_snoc hil
  have h5 : wt (LL (l.take i)) + ((Cr.bl l[i]).length + 1) ≤ wt (LL l) := by
   rw [h4, wt_append] at h2
   simpa [wt] using h2
  rw [Cr.bl_len] at h5
  rw [crierref5_Join.l0, if_pos (by omega), wrap_n (n := 1000000000) (by omega) (by omega), rd_at l i hil, bytesOf_B]
  by_cases h0 : i = 0
  ·subst h0
   rw [if_neg (by omega), if_pos (by omega)]
   have h6 : (B (Cr.join (LL (l.take 0)))).length = 0 := rfl
   rw [if_pos (by rw [h6]; omega)]
   rw [h4] at step
   have e : B (Cr.join (LL (l.take 0))) ++ B (Cr.bl l[0]) = B (Cr.join (LL (l.take 0) ++ [Cr.bl l[0]])) := rfl
   rw [e]; exact step
  ·have h6 := B_len (Cr.join (LL (l.take i)))
   rw [if_pos (by omega), if_pos (by omega)]
   simp only [Option.bind_some]
   rw [if_pos (by omega), if_pos (by rw [List.length_append]; show _ + 1 + _ < _; omega)]
   have hne : LL (l.take i) ≠ [] := by
    intro h
    have := congrArg List.length h
    rw [LL_len, List.length_take] at this
    have this : min i l.length = 0 := this
    omega
   rw [h4, join_snoc _ _ hne] at step
   have e : B (Cr.join (LL (l.take i))) ++ [47] ++ B (Cr.bl l[i]) = B (Cr.join (LL (l.take i)) ++ 47 :: Cr.bl l[i]) := by unfold B; simp
   rw [e]; exact step
theorem rJoin (l : List ByteArray) (hw : wt (LL l) ≤ 1000000000) (k : Nat) (hk : l.length < k) : crierref5_Join.f k l = some (joinB l) := by
 unfold crierref5_Join.f
 exact rJoin_l l hw l.length 0 k (by omega) (by omega) hk

/-! shared filters -/
theorem level_text {s : Cr.T} (h : Cr.isFilter s = true) {x : Cr.T} (hx : x ∈ Cr.levels s) (hl : x.length ≤ 65535) : Cr.isText x = true := by
 have := ((Cr.filter_parts h).2.1 x hx).2
 unfold Cr.isText
 rw [this, decide_eq_true hl]; rfl
theorem rShared (s : ByteArray) (hs : s.size ≤ 1000000) (k : Nat) (hk : 30000000 < k) : ∃ a b, crierref5_Shared.f k s = some (a, b, (Cr.shared (Cr.bl s)).isSome) := by
 obtain ⟨c, hc1, hc2⟩ := rCF s hs k (by omega)
 obtain ⟨k, rfl⟩ : ∃ m, k = m + 1 := ⟨k - 1, by omega⟩
 unfold crierref5_Shared.f
 rw [rLevels s hs _ (by omega), hc1]
 simp only [Option.bind_some]
 have hLL := LL_levelsB s
 have hszs : ∀ x ∈ levelsB s, x.size ≤ s.size := fun x hx => levelsB_size hx
 have hwt : wt (LL (levelsB s)) = s.size + 1 := by rw [LL_levelsB, wt_levels, Cr.bl_len]
 have jt : crierref5_Shared.j0 (k + 1) (levelsB s) true = some ((⟨#[]⟩ : ByteArray), (⟨#[]⟩ : ByteArray), false) := by rw [crierref5_Shared.j0, if_pos rfl]
 by_cases h0 : c = 0
 ·have hf := hc2.1 h0
  rw [if_pos h0, jt]
  unfold Cr.shared
  rw [← hLL]
  generalize hL : levelsB s = L at *
  match L with
  | [] => rw [if_pos (by simp)]; exact ⟨_, _, rfl⟩
  | [x] => rw [if_pos (by simp)]; exact ⟨_, _, rfl⟩
  | [x, y] => rw [if_pos (by simp)]; exact ⟨_, _, rfl⟩
  | x :: y :: z :: r =>
   rw [if_neg (by simp; omega), if_pos (by simp; omega), rd0, rd1, tl, tl, if_pos (show (1 : Int) < ((x :: y :: z :: r).length : Int) by simp; omega)]
   show ∃ a b, _ = some (a, b, (if Cr.bl x = Cr.share ∧ Cr.isTopic (Cr.bl y) = true ∧ Cr.isFilter (Cr.join (Cr.bl z :: LL r)) = true ∧ Cr.isFilter (Cr.bl s) = true then some (Cr.bl y, Cr.join (Cr.bl z :: LL r)) else none).isSome)
   have ysz := hszs y (by simp)
   have hy : Cr.isText (Cr.bl y) = true := level_text hf (by rw [← hLL]; simp [LL]) (by
    have := (Cr.filter_parts hf).2.2.2
    rw [Cr.bl_len] at this ⊢; omega)
   by_cases hx : Cr.bl x = Cr.share
   ·rw [if_pos (show Cr.bl x = ([36, 115, 104, 97, 114, 101] : List UInt8) from hx)]
    by_cases hye : Cr.bl y = []
    ·rw [if_pos hye, if_neg (fun h => by have := h.2.1; rw [hye] at this; simp [Cr.isTopic] at this)]
     exact ⟨_, _, rfl⟩
    ·rw [if_neg hye, rsign y (by omega) _ (by omega)]
     simp only [Option.bind_some]
     have hyt : Cr.isTopic (Cr.bl y) = !Cr.wildIn (Cr.bl y) := by
      unfold Cr.isTopic
      rw [hy]
      cases hb : Cr.bl y with
      | nil => exact absurd hb hye
      | cons a b => rfl
     rw [hyt]
     cases hw : Cr.wildIn (Cr.bl y) with
     | true =>
      rw [jt, if_neg (fun h => by have := h.2.1; simp at this)]
      exact ⟨_, _, rfl⟩
     | false =>
      rw [crierref5_Shared.j0, if_neg (by decide), if_pos (by simp; omega)]
      have hdr : (x :: y :: z :: r).drop 2 = z :: r := rfl
      have hwd : wt (LL (z :: r)) ≤ s.size + 1 := by
       have : wt (LL (x :: y :: z :: r)) = (Cr.bl x).length + 1 + ((Cr.bl y).length + 1 + wt (LL (z :: r))) := rfl
       omega
      have hj := wt_join (LL (z :: r))
      have hjs : (joinB (z :: r)).size = (Cr.join (LL (z :: r))).length := by rw [← Cr.bl_len, bl_joinB]
      have hlw := wt_len (LL (z :: r))
      rw [LL_len] at hlw
      rw [hdr, rJoin (z :: r) (by omega) _ (by omega)]
      simp only [Option.bind_some]
      have hsz := (Cr.filter_parts hf).2.2.2
      rw [Cr.bl_len] at hsz
      obtain ⟨c2, hd1, hd2⟩ := rCF (joinB (z :: r)) (by omega) k (by omega)
      rw [hd1]
      simp only [Option.bind_some]
      rw [bl_joinB] at hd2
      by_cases h2 : c2 = 0
      ·rw [if_pos h2, if_pos (by simp; omega), if_pos ⟨hx, by simp, hd2.1 h2, hf⟩]
       exact ⟨_, _, rfl⟩
      ·rw [if_neg h2, if_neg (fun h => h2 (hd2.2 h.2.2.1))]
       exact ⟨_, _, rfl⟩
   ·rw [if_neg (show ¬ Cr.bl x = ([36, 115, 104, 97, 114, 101] : List UInt8) from hx), if_neg (fun h => hx h.1)]
    exact ⟨_, _, rfl⟩
 ·rw [if_neg h0, jt]
  have hf : ¬ Cr.isFilter (Cr.bl s) = true := fun h => h0 (hc2.2 h)
  have : Cr.shared (Cr.bl s) = none := by
   unfold Cr.shared
   split
   ·rw [if_neg (fun h => hf h.2.2.2)]
   ·rfl
  rw [this]
  exact ⟨_, _, rfl⟩
theorem rPlain (s : ByteArray) (hs : s.size ≤ 1000000) (k : Nat) (hk : 30000000 < k) : crierref5_Plain.f k s = some (Cr.plain (Cr.bl s)) := by
 obtain ⟨a, b, h1⟩ := rShared s hs k hk
 obtain ⟨c, hc1, hc2⟩ := rCF s hs k (by omega)
 unfold crierref5_Plain.f Cr.plain
 rw [h1, hc1]
 simp only [Option.bind_some]
 by_cases h0 : c = 0
 ·rw [if_pos h0, hc2.1 h0]
  cases Cr.shared (Cr.bl s) <;> rfl
 ·rw [if_neg h0]
  have : Cr.isFilter (Cr.bl s) = false := by rw [Bool.eq_false_iff]; exact fun h => h0 (hc2.2 h)
  rw [this]; rfl

/-! matching -/
theorem rgoes_l (f t : List ByteArray) (hf : f.length ≤ 1000000) : ∀ (d i k : Nat), f.length - i = d → i ≤ f.length → i ≤ t.length → d < k → crierref5_goes.l0 k f t (i : Int) = some (Cr.goes (LL (f.drop i)) (LL (t.drop i))) := by
 intro d
 induction d with
 | zero =>
  intro i k hd hi hit hk
  obtain ⟨k, rfl⟩ : ∃ m, k = m + 1 := ⟨k - 1, by omega⟩
  rw [crierref5_goes.l0, if_neg (by omega), List.drop_eq_nil_of_le (show f.length ≤ i by omega)]
  show _ = some ((LL (t.drop i)).isEmpty)
  congr 1
  rw [Bool.eq_iff_iff, beq_iff_eq, List.isEmpty_iff, ← List.length_eq_zero_iff, LL_len, List.length_drop]
  omega
 | succ d ih =>
  intro i k hd hi hit hk
  obtain ⟨k, rfl⟩ : ∃ m, k = m + 1 := ⟨k - 1, by omega⟩
  have hil : i < f.length := by omega
  have hdf : LL (f.drop i) = Cr.bl f[i] :: LL (f.drop (i + 1)) := by rw [List.drop_eq_getElem_cons hil]; rfl
  rw [crierref5_goes.l0, if_pos (by omega), if_pos (by omega), rd_at f i hil, tl, hdf, wrap_n (n := 1000000) (by omega) (by omega)]
  by_cases hH : Cr.bl f[i] = Cr.H
  ·rw [if_pos (show Cr.bl f[i] = ([35] : List UInt8) from hH), hH, Cr.goes_hash]
  ·rw [if_neg (show ¬ Cr.bl f[i] = ([35] : List UInt8) from hH)]
   by_cases ht : i < t.length
   ·have hdt : LL (t.drop i) = Cr.bl t[i] :: LL (t.drop (i + 1)) := by rw [List.drop_eq_getElem_cons ht]; rfl
    have step := ih (i + 1) k (by omega) (by omega) (by omega) (by omega)
    rw [if_neg (by omega), hdt, Cr.goes_cons _ _ _ _ hH, rd_at t i ht, tl]
    by_cases hP : Cr.bl f[i] = Cr.P
    ·rw [if_pos (show Cr.bl f[i] = ([43] : List UInt8) from hP), step, decide_eq_true (Or.inl hP), Bool.true_and]
    ·rw [if_neg (show ¬ Cr.bl f[i] = ([43] : List UInt8) from hP), if_pos (by omega)]
     by_cases he : Cr.bl f[i] = Cr.bl t[i]
     ·rw [if_pos he, step, decide_eq_true (Or.inr he), Bool.true_and]
     ·rw [if_neg he, decide_eq_false (fun h => by rcases h with h | h; exact hP h; exact he h), Bool.false_and]
   ·rw [if_pos (by omega), List.drop_eq_nil_of_le (show t.length ≤ i by omega)]
    show _ = some (Cr.goes (Cr.bl f[i] :: LL (f.drop (i + 1))) [])
    rw [Cr.goes_nil _ _ hH]
theorem rgoes (f t : List ByteArray) (hf : f.length ≤ 1000000) (k : Nat) (hk : f.length < k) : crierref5_goes.f k f t = some (Cr.goes (LL f) (LL t)) := by
 unfold crierref5_goes.f
 have := rgoes_l f t hf f.length 0 k (by omega) (by omega) (by omega) hk
 rwa [List.drop_zero, List.drop_zero] at this
theorem sg_first {f : Cr.T} (h : Cr.isFilter f = true) : Cr.sg (Cr.fst (Cr.levels f)) = (f.head? == some 43 || f.head? == some 35) := by
 have hp := Cr.filter_parts h
 cases f with
 | nil => exact absurd rfl hp.2.2.1
 | cons c s =>
  by_cases hc : c = 47
  ·subst hc
   rw [show Cr.levels (47 :: s) = [] :: Cr.levels s by rw [Cr.levels]; rfl]
   rfl
  ·obtain ⟨l, r, h1, h2⟩ := Cr.levels_cons c s hc
   have hok := hp.1
   rw [h2] at hok ⊢
   show Cr.sg (c :: l) = (some c == some 43 || some c == some 35)
   by_cases hw : c = 43 ∨ c = 35
   ·have hwild : Cr.wildIn (c :: l) = true := by
     rcases hw with rfl | rfl <;> simp [Cr.wildIn]
    have hlen := Cr.okF_mem hok (c :: l) (by simp) hwild
    have hl : l = [] := List.length_eq_zero_iff.1 (by simpa using hlen)
    subst hl
    rcases hw with rfl | rfl <;> decide
   ·have h43 : c ≠ 43 := fun e => hw (.inl e)
    have h35 : c ≠ 35 := fun e => hw (.inr e)
    have e1 : (c :: l == Cr.P) = false := beq_eq_false_iff_ne.2 (fun e => h43 (by injection e))
    have e2 : (c :: l == Cr.H) = false := beq_eq_false_iff_ne.2 (fun e => h35 (by injection e))
    unfold Cr.sg
    rw [e1, e2, show (some c == some 43) = false from beq_eq_false_iff_ne.2 (fun e => h43 (Option.some.inj e)), show (some c == some 35) = false from beq_eq_false_iff_ne.2 (fun e => h35 (Option.some.inj e))]
theorem rMatch (a b : ByteArray) (ha : a.size ≤ 1000000) (hb : b.size ≤ 1000000) (k : Nat) (hk : 30000002 < k) : crierref5_Match.f k a b = some (Cr.mt (Cr.bl a) (Cr.bl b)) := by
 obtain ⟨c, hc1, hc2⟩ := rCheck b hb k (by omega)
 unfold crierref5_Match.f
 rw [rPlain a ha k (by omega), hc1]
 simp only [Option.bind_some]
 obtain ⟨k, rfl⟩ : ∃ m, k = m + 2 := ⟨k - 2, by omega⟩
 rw [show k + 2 = (k + 1) + 1 from rfl]
 have jt : crierref5_Match.j0 ((k + 1) + 1) a b true = some false := by rw [crierref5_Match.j0, if_pos rfl]
 rw [jt]
 unfold Cr.mt
 cases hp : Cr.plain (Cr.bl a) with
 | false => rw [if_neg (by decide)]; rfl
 | true =>
  rw [if_pos rfl]
  by_cases h0 : c = 0
  ·have ht := hc2.1 h0
   have hbp : 0 < b.size := by
    rcases Nat.eq_zero_or_pos b.size with h | h
    ·exfalso
     have : Cr.bl b = [] := List.length_eq_zero_iff.1 (by rw [Cr.bl_len]; exact h)
     rw [this] at ht; simp [Cr.isTopic] at ht
    ·exact h
   have hfl := Cr.plain_filter hp
   have hap : 0 < a.size := by
    rcases Nat.eq_zero_or_pos a.size with h | h
    ·exfalso
     exact (Cr.filter_parts hfl).2.2.1 (List.length_eq_zero_iff.1 (by rw [Cr.bl_len]; exact h))
    ·exact h
   have ea : (Cr.bl a).head? = some (a.get! 0) := by
    have := drop_cons a 0 hap
    rw [List.drop_zero] at this
    rw [this]; rfl
   have eb : (Cr.bl b).head? = some (b.get! 0) := by
    have := drop_cons b 0 hbp
    rw [List.drop_zero] at this
    rw [this]; rfl
   have b36 := bt_eq b 0 hbp 36 36 rfl
   have a43 := bt_eq a 0 hap 43 43 rfl
   have a35 := bt_eq a 0 hap 35 35 rfl
   rw [show ((0 : Nat) : Int) = 0 from rfl] at b36 a43 a35
   rw [show (c != 0) = false by rw [h0]; rfl, crierref5_Match.j0, if_neg (by decide), if_pos (by omega), if_pos (show (0 : Int) < (a.size : Int) by omega), ht, sg_first hfl, ea, eb]
   have j1f : crierref5_Match.j1 (k + 1) a b false = some (Cr.goes (Cr.levels (Cr.bl a)) (Cr.levels (Cr.bl b))) := by
    have l1 := levelsB_len a
    rw [crierref5_Match.j1, if_neg (by decide), rLevels a ha _ (by omega), rLevels b hb _ (by omega)]
    simp only [Option.bind_some]
    rw [rgoes _ _ (by have := (Cr.filter_parts hfl).2.2.2; rw [Cr.bl_len] at this; omega) _ (by omega), LL_levelsB, LL_levelsB]
    rfl
   have j1t : crierref5_Match.j1 (k + 1) a b true = some false := by rw [crierref5_Match.j1, if_pos rfl]
   by_cases h36 : b.get! 0 = 36
   ·rw [if_pos (b36.2 h36), h36]
    by_cases h43 : a.get! 0 = 43
    ·rw [if_pos (a43.2 h43), j1t, h43]; rfl
    ·rw [if_neg (fun h => h43 (a43.1 h))]
     by_cases h35 : a.get! 0 = 35
     ·rw [show (bt a 0 == 35) = true from beq_iff_eq.2 (a35.2 h35), j1t, h35]; rfl
     ·rw [show (bt a 0 == 35) = false from beq_eq_false_iff_ne.2 (fun h => h35 (a35.1 h)), j1f]
      simp [h43, h35]
   ·rw [if_neg (fun h => h36 (b36.1 h)), j1f]
    simp [h36]
  ·have : Cr.isTopic (Cr.bl b) = false := by rw [Bool.eq_false_iff]; exact fun h => h0 (hc2.2 h)
   rw [show (c != 0) = true from bne_iff_ne.2 h0, jt, this]; rfl

/-! the search's steps -/
theorem rright_l (l : List ByteArray) (hw : wt (LL l) ≤ 1000000000) : ∀ (d i k : Nat), l.length - i = d → i ≤ l.length → l.length + 10 + d < k →
  crierref6_right.l0 k l ((wt (LL (l.take i)) : Int) + ((l.length : Int) - (i : Int)) - 1) (i : Int) = some (if l ≠ [] ∧ 1 ≤ (Cr.join (LL l)).length ∧ (Cr.join (LL l)).length ≤ 65535 then (joinB l, true) else ((⟨#[]⟩ : ByteArray), false)) := by
 have hlw := wt_len (LL l)
 rw [LL_len] at hlw
 intro d
 induction d with
 | zero =>
  intro i k hd hi hk
  obtain ⟨k, rfl⟩ : ∃ m, k = m + 1 := ⟨k - 1, by omega⟩
  rw [crierref6_right.l0, if_neg (by omega), List.take_of_length_le (by omega)]
  by_cases hne : l = []
  ·subst hne
   rw [if_pos (by simp [LL, wt]; omega), if_neg (fun h => h.1 rfl)]
  ·have hlne : LL l ≠ [] := by intro h; exact hne (by have := congrArg List.length h; rw [LL_len] at this; exact List.length_eq_zero_iff.1 this)
   have hj := wt_join_eq (LL l) hlne
   by_cases h1 : 1 ≤ (Cr.join (LL l)).length
   ·by_cases h2 : (Cr.join (LL l)).length ≤ 65535
    ·rw [if_neg (by omega), if_neg (by omega), if_pos ⟨hne, h1, h2⟩, rJoin l hw k (by omega)]; rfl
    ·rw [if_neg (by omega), if_pos (by omega), if_neg (fun h => h2 h.2.2)]
   ·rw [if_pos (by omega), if_neg (fun h => h1 h.2.1)]
 | succ d ih =>
  intro i k hd hi hk
  obtain ⟨k, rfl⟩ : ∃ m, k = m + 1 := ⟨k - 1, by omega⟩
  have hil : i < l.length := by omega
  have step := ih (i + 1) k (by omega) (by omega) (by omega)
  have h1 := wt_take (l := l) (i + 1)
  have h4 := LL_take_snoc hil
  have h5 : wt (LL (l.take (i + 1))) = wt (LL (l.take i)) + (l[i].size + 1) := by
   rw [h4, wt_append, ← Cr.bl_len]; rfl
  rw [crierref6_right.l0, if_pos (by omega), if_pos (by omega), rd_at l i hil, wrap_n (n := 1000000000) (by omega) (by omega)]
  have e : wrap64 ((wt (LL (l.take i)) : Int) + ((l.length : Int) - (i : Int)) - 1 + (l[i].size : Int)) = (wt (LL (l.take (i + 1))) : Int) + ((l.length : Int) - ((i + 1 : Nat) : Int)) - 1 := by unfold wrap64; omega
  rw [e]; exact step
theorem rright (l : List ByteArray) (hw : wt (LL l) ≤ 1000000000) (k : Nat) (hk : 2 * l.length + 10 < k) : crierref6_right.f k l = some (if l ≠ [] ∧ 1 ≤ (Cr.join (LL l)).length ∧ (Cr.join (LL l)).length ≤ 65535 then (joinB l, true) else ((⟨#[]⟩ : ByteArray), false)) := by
 have hlw := wt_len (LL l)
 rw [LL_len] at hlw
 unfold crierref6_right.f
 have := rright_l l hw l.length 0 k (by omega) (by omega) (by omega)
 rw [← this]
 congr 1
 simp [LL, wt]
 unfold wrap64
 omega
theorem LL_nil {l : List ByteArray} : LL l ≠ [] ↔ l ≠ [] := by
 constructor
 ·intro h e; rw [e] at h; exact h rfl
 ·intro h e; exact h (by have := congrArg List.length e; rw [LL_len] at this; exact List.length_eq_zero_iff.1 this)
theorem rcommon (l : List ByteArray) (f g : ByteArray) (hw : wt (LL l) ≤ 1000000000) (hf : f.size ≤ 1000000) (hg : g.size ≤ 1000000) (hl : l.length ≤ 10000000) (k : Nat) (hk : 30000002 < k) :
  crierref6_common.f k l f g = some (if Cr.com (LL l) (Cr.bl f) (Cr.bl g) = true then (joinB l, true) else ((⟨#[]⟩ : ByteArray), false)) := by
 unfold crierref6_common.f Cr.com
 rw [rright l hw k (by omega)]
 simp only [Option.bind_some]
 by_cases h : l ≠ [] ∧ 1 ≤ (Cr.join (LL l)).length ∧ (Cr.join (LL l)).length ≤ 65535
 ·have hjs : (joinB l).size ≤ 1000000 := by rw [← Cr.bl_len, bl_joinB]; omega
  rw [if_pos h, if_pos rfl, rMatch f (joinB l) hf hjs k hk, rMatch g (joinB l) hg hjs k hk]
  simp only [Option.bind_some]
  rw [bl_joinB, decide_eq_true (LL_nil.2 h.1), decide_eq_true h.2]
  cases Cr.mt (Cr.bl f) (Cr.join (LL l)) <;> cases Cr.mt (Cr.bl g) (Cr.join (LL l)) <;> rfl
 ·rw [if_neg h, if_neg (by decide)]
  by_cases h1 : l ≠ []
  ·rw [decide_eq_false (fun h2 => h ⟨h1, h2⟩)]; simp
  ·have : ¬ LL l ≠ [] := fun h2 => h1 (LL_nil.1 h2)
   rw [decide_eq_false this]; simp
theorem rshows (l : List ByteArray) (f g : ByteArray) (hw : wt (LL l) ≤ 1000000000) (hf : f.size ≤ 1000000) (hg : g.size ≤ 1000000) (hl : l.length ≤ 10000000) (k : Nat) (hk : 30000002 < k) :
  crierref6_shows.f k l f g = some (if Cr.shw (LL l) (Cr.bl f) (Cr.bl g) = true then (joinB l, true) else ((⟨#[]⟩ : ByteArray), false)) := by
 unfold crierref6_shows.f Cr.shw
 rw [rright l hw k (by omega)]
 simp only [Option.bind_some]
 by_cases h : l ≠ [] ∧ 1 ≤ (Cr.join (LL l)).length ∧ (Cr.join (LL l)).length ≤ 65535
 ·have hjs : (joinB l).size ≤ 1000000 := by rw [← Cr.bl_len, bl_joinB]; omega
  rw [if_pos h, if_pos rfl, rMatch f (joinB l) hf hjs k hk, rMatch g (joinB l) hg hjs k hk]
  simp only [Option.bind_some]
  rw [bl_joinB, decide_eq_true (LL_nil.2 h.1), decide_eq_true h.2]
  cases Cr.mt (Cr.bl f) (Cr.join (LL l)) <;> cases Cr.mt (Cr.bl g) (Cr.join (LL l)) <;> rfl
 ·rw [if_neg h, if_neg (by decide)]
  by_cases h1 : l ≠ []
  ·rw [decide_eq_false (fun h2 => h ⟨h1, h2⟩)]; simp
  ·have : ¬ LL l ≠ [] := fun h2 => h1 (LL_nil.1 h2)
   rw [decide_eq_false this]; simp
theorem rboth (a b : ByteArray) : ∃ c ok, crierref6_both.f a b = some (c, ok) ∧ Cr.bth (Cr.bl a) (Cr.bl b) = if ok = true then some (Cr.bl c) else none := by
 unfold crierref6_both.f Cr.bth
 rw [tl, tl]
 have hP : ∀ x : Cr.T, x = ([43] : List UInt8) ↔ x = Cr.P := fun x => Iff.rfl
 by_cases h1 : Cr.bl a = Cr.P
 ·rw [if_pos ((hP _).2 h1), if_pos h1]; exact ⟨_, _, rfl, rfl⟩
 ·rw [if_neg (fun h => h1 ((hP _).1 h)), if_neg h1]
  by_cases h2 : Cr.bl b = Cr.P
  ·rw [if_pos ((hP _).2 h2), if_pos (.inl h2)]; exact ⟨_, _, rfl, rfl⟩
  ·rw [if_neg (fun h => h2 ((hP _).1 h))]
   by_cases h3 : Cr.bl a = Cr.bl b
   ·rw [if_pos (.inr h3), show (Cr.bl a == Cr.bl b) = true from beq_iff_eq.2 h3]; exact ⟨_, _, rfl, rfl⟩
   ·rw [if_neg (by rintro (h | h); exact h2 h; exact h3 h), show (Cr.bl a == Cr.bl b) = false from beq_eq_false_iff_ne.2 h3]; exact ⟨_, _, rfl, rfl⟩
theorem ropen (s : ByteArray) (hs : s.size ≤ 1000000) (k : Nat) (hk : 1000000 < k) : ∃ l, crierref6_open.f k s = some (l, (Cr.opn (Cr.levels (Cr.bl s))).2) ∧ LL l = (Cr.opn (Cr.levels (Cr.bl s))).1 ∧ l.length ≤ (levelsB s).length := by
 unfold crierref6_open.f
 rw [rLevels s hs k (by omega)]
 simp only [Option.bind_some]
 have hpos := levelsB_pos s
 have hlen := levelsB_len s
 have e : wrap64 (((levelsB s).length : Int) - 1) = (((levelsB s).length - 1 : Nat) : Int) := by unfold wrap64; omega
 have hl1 : (levelsB s).length - 1 < (levelsB s).length := by omega
 rw [e, if_pos (by omega), if_pos (by omega), rd_at (levelsB s) _ hl1, tl, if_pos (show (((levelsB s).length - 1 : Nat) : Int) ≤ ((levelsB s).length : Int) by omega), Int.toNat_natCast, ← LL_levelsB]
 unfold Cr.opn
 have hlast : (LL (levelsB s)).getLast? = some (Cr.bl (levelsB s)[(levelsB s).length - 1]) := by
  rw [List.getLast?_eq_getElem?, LL_len]
  unfold LL
  rw [List.getElem?_map, List.getElem?_eq_getElem hl1]; rfl
 rw [hlast]
 by_cases hH : Cr.bl (levelsB s)[(levelsB s).length - 1] = Cr.H
 ·rw [if_pos (show Cr.bl (levelsB s)[(levelsB s).length - 1] = ([35] : List UInt8) from hH), if_pos (by rw [hH])]
  refine ⟨_, rfl, ?_, by rw [List.length_take]; omega⟩
  rw [LL_take, List.dropLast_eq_take, LL_len]
 ·rw [if_neg (show ¬ Cr.bl (levelsB s)[(levelsB s).length - 1] = ([35] : List UInt8) from hH), if_neg (fun h => hH (Option.some.inj h))]
  exact ⟨_, rfl, rfl, Nat.le_refl _⟩
theorem ralive (l : List ByteArray) (no : ByteArray) (k : Nat) (hk : 0 < k) : ∃ r, crierref6_alive.f k l no = some r ∧ LL r = Cr.alive (LL l) (Cr.bl no) ∧ r.length = l.length := by
 obtain ⟨k, rfl⟩ : ∃ m, k = m + 1 := ⟨k - 1, by omega⟩
 unfold crierref6_alive.f Cr.alive
 by_cases h1 : (l.length : Int) = 1
 ·match l, h1 with
  | [x], _ =>
   rw [if_pos (by simp), if_pos (by simp), rd0, crierref6_alive.j0, tl, tl]
   by_cases hx : Cr.bl x = []
   ·rw [hx, show (([] : Cr.T) == ([] : List UInt8)) = true from rfl, if_pos rfl, if_pos (show LL [x] = [[]] by show [Cr.bl x] = _; rw [hx])]
    by_cases hn : Cr.bl no = [97]
    ·rw [if_pos hn, if_pos hn]; exact ⟨_, rfl, rfl, rfl⟩
    ·rw [if_neg hn, if_neg hn]; exact ⟨_, rfl, rfl, rfl⟩
   ·rw [show (Cr.bl x == ([] : List UInt8)) = false from beq_eq_false_iff_ne.2 hx, if_neg (by decide), if_neg (show ¬ LL [x] = [[]] by intro h; exact hx (by simpa [LL] using h))]
    exact ⟨_, rfl, rfl, rfl⟩
 ·rw [if_neg h1, crierref6_alive.j0, if_neg (by decide), if_neg (fun h => h1 (by have := congrArg List.length h; rw [LL_len] at this; simp at this; omega))]
  exact ⟨_, rfl, rfl, rfl⟩
theorem rfill_l1 (n : Nat) (hn : n ≤ 10000000) : ∀ (d k : Nat) (acc : List ByteArray), n - acc.length = d → acc.length ≤ 10000000 → d < k → crierref6_fill.l1 k (n : Int) acc = some (acc ++ List.replicate (n - acc.length) (⟨#[]⟩ : ByteArray)) := by
 intro d
 induction d with
 | zero =>
  intro k acc hd ha hk
  obtain ⟨k, rfl⟩ : ∃ m, k = m + 1 := ⟨k - 1, by omega⟩
  rw [crierref6_fill.l1, if_neg (by omega), hd]; simp
 | succ d ih =>
  intro k acc hd ha hk
  obtain ⟨k, rfl⟩ : ∃ m, k = m + 1 := ⟨k - 1, by omega⟩
  rw [crierref6_fill.l1, if_pos (by omega), if_pos (by omega), ih k _ (by simp; omega) (by simp; omega) (by omega), hd]
  have : n - (acc ++ [(⟨#[]⟩ : ByteArray)]).length = d := by simp; omega
  rw [this, List.append_assoc]
  rfl
theorem rfill_l0 (l : List ByteArray) (n : Nat) (hn : n ≤ 10000000) (hl : l.length ≤ 1000000) : ∀ (d i k : Nat) (acc : List ByteArray), l.length - i = d → i ≤ l.length → acc.length = i → LL acc = (LL (l.take i)).map Cr.lv → d + n + 1 < k →
  ∃ r, crierref6_fill.l0 k l (n : Int) acc (i : Int) = some r ∧ LL r = Cr.fill (LL l) n ∧ r.length = max l.length n := by
 intro d
 induction d with
 | zero =>
  intro i k acc hd hi ha hacc hk
  obtain ⟨k, rfl⟩ : ∃ m, k = m + 1 := ⟨k - 1, by omega⟩
  rw [crierref6_fill.l0, if_neg (by omega), rfill_l1 n hn (n - acc.length) k acc rfl (by omega) (by omega)]
  refine ⟨_, rfl, ?_, by simp; omega⟩
  rw [List.take_of_length_le (by omega)] at hacc
  unfold Cr.fill
  rw [← hacc, LL_len]
  simp only [LL, List.map_append, List.map_replicate]
  rw [show acc.length = l.length by omega]
 | succ d ih =>
  intro i k acc hd hi ha hacc hk
  obtain ⟨k, rfl⟩ : ∃ m, k = m + 1 := ⟨k - 1, by omega⟩
  have hil : i < l.length := by omega
  have h4 := LL_take_snoc hil
  rw [crierref6_fill.l0, if_pos (by omega), if_pos (by omega), rd_at l i hil, tl, wrap_n (n := 1000000) (by omega) (by omega)]
  by_cases hP : Cr.bl l[i] = Cr.P
  ·rw [if_pos (show Cr.bl l[i] = ([43] : List UInt8) from hP), if_pos (by omega)]
   refine ih (i + 1) k _ (by omega) (by omega) (by simp; omega) ?_ (by omega)
   rw [h4, List.map_append, ← hacc, hP]
   simp [LL, Cr.lv]
  ·rw [if_neg (show ¬ Cr.bl l[i] = ([43] : List UInt8) from hP), if_pos (by omega)]
   refine ih (i + 1) k _ (by omega) (by omega) (by simp; omega) ?_ (by omega)
   rw [h4, List.map_append, ← hacc]
   simp [LL, Cr.lv, hP]
theorem rfill (l : List ByteArray) (n : Nat) (hn : n ≤ 10000000) (hl : l.length ≤ 1000000) (k : Nat) (hk : 20000000 < k) : ∃ r, crierref6_fill.f k l (n : Int) = some r ∧ LL r = Cr.fill (LL l) n ∧ r.length = max l.length n := by
 unfold crierref6_fill.f
 exact rfill_l0 l n hn hl l.length 0 k [] (by omega) (by omega) rfl rfl (by omega)
end Go.Proofs.Ytamelcgamlcliaa.Giv
