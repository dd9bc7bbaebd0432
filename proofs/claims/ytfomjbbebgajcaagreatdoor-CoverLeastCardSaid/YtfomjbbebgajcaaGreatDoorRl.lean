/- What the printed crierref6.Least tells: what the program's Least leaves. -/
import Derived.Test.YtfomjbbebgajcaaGreatDoorRb
import Derived.Test.YtfomjbbebgajcaaGreatDoorLea
namespace LeastLaw
section
variable {α : Type} (z : α) (W : α → α → Bool)
def hit (l : List α) (i : Nat) : Bool := (List.range l.length).any fun k => decide (k ≠ i) && W (l.getD i z) (l.getD k z)
def go : Nat → List α → List α
 | 0, l => l
 | i + 1, l => go i (if hit z W l i = true then l.eraseIdx i else l)
def rhit (l : List α) (g : List Bool) (i : Nat) : Bool := (List.range l.length).any fun k => decide (k ≠ i) && !(g.getD k true) && W (l.getD i z) (l.getD k z)
/-- what is gone behind j of the reference's rounds -/
def gone (l : List α) : Nat → List Bool
 | 0 => List.replicate l.length false
 | j + 1 => (gone l j).set (l.length - 1 - j) (rhit z W l (gone l j) (l.length - 1 - j))
def keep : List α → List Bool → List α
 | x :: l, b :: g => if b = true then keep l g else x :: keep l g
 | _, _ => []
theorem gone_len (l : List α) : ∀ j, (gone z W l j).length = l.length
 | 0 => by simp [gone]
 | j + 1 => by simp [gone, gone_len l j]
theorem keep_app (a b : List α) (g : List Bool) : keep (a ++ b) (List.replicate a.length false ++ g) = a ++ keep b g := by
 induction a with
 | nil => simp
 | cons x a ih => simp [List.replicate_succ, keep, ih]
theorem getD_mid (a b : List α) (x : α) : (a ++ x :: b).getD a.length z = x := by simp [List.getD]
theorem hit_split (a c : List α) (x : α) : hit z W (a ++ x :: c) a.length = (a.any (W x) || c.any (W x)) := by
 rw [Bool.eq_iff_iff]
 unfold hit
 rw [getD_mid]
 simp only [List.any_eq_true, List.mem_range, Bool.and_eq_true, decide_eq_true_eq, Bool.or_eq_true]
 constructor
 ·rintro ⟨k, hk, hne, h⟩
  rcases Nat.lt_trichotomy k a.length with h1 | h1 | h1
  ·refine .inl ⟨a[k], List.getElem_mem h1, ?_⟩
   simpa [List.getD, List.getElem?_append_left h1, h1] using h
  ·exact absurd h1 hne
  ·obtain ⟨m, rfl⟩ : ∃ m, k = a.length + (m + 1) := ⟨k - a.length - 1, by omega⟩
   have hm : m < c.length := by simp at hk; omega
   refine .inr ⟨c[m], List.getElem_mem hm, ?_⟩
   simpa [List.getD, List.getElem?_append_right, hm] using h
 ·rintro (⟨y, hy, h⟩ | ⟨y, hy, h⟩)
  ·obtain ⟨k, hk, rfl⟩ := List.getElem_of_mem hy
   refine ⟨k, by simp; omega, by omega, ?_⟩
   simpa [List.getD, List.getElem?_append_left hk, hk] using h
  ·obtain ⟨k, hk, rfl⟩ := List.getElem_of_mem hy
   refine ⟨a.length + (k + 1), by simp; omega, by omega, ?_⟩
   simpa [List.getD, List.getElem?_append_right, hk] using h
theorem mem_keep : ∀ (b : List α) (g : List Bool) (y : α), g.length = b.length → (y ∈ keep b g ↔ ∃ k, ∃ h : k < b.length, g.getD k true = false ∧ b[k] = y)
 | [], [], y, _ => by simp [keep]
 | x :: b, c :: g, y, h => by
  have ih := mem_keep b g y (by simpa using h)
  rw [keep]
  constructor
  ·intro hm
   by_cases hc : c = true
   ·rw [if_pos hc] at hm
    obtain ⟨k, hk, h1, h2⟩ := ih.1 hm
    exact ⟨k + 1, by simp; omega, by simpa using h1, by simpa using h2⟩
   ·rw [if_neg hc] at hm
    rcases List.mem_cons.1 hm with rfl | hm
    ·exact ⟨0, by simp, by simpa using hc, rfl⟩
    ·obtain ⟨k, hk, h1, h2⟩ := ih.1 hm
     exact ⟨k + 1, by simp; omega, by simpa using h1, by simpa using h2⟩
  ·rintro ⟨k, hk, h1, h2⟩
   rcases k with _ | k
   ·have h1 : c = false := by simpa using h1
    have h2 : x = y := h2
    rw [if_neg (by simp [h1]), h2]
    exact List.mem_cons_self
   ·have := ih.2 ⟨k, by simpa using hk, by simpa using h1, by simpa using h2⟩
    by_cases hc : c = true
    ·rw [if_pos hc]; exact this
    ·rw [if_neg hc]; exact List.mem_cons_of_mem _ this
 | [], c :: g, y, h => by simp at h
 | x :: b, [], y, h => by simp at h
theorem rhit_split (a b : List α) (x : α) (g : List Bool) (hg : g.length = b.length) : rhit z W (a ++ x :: b) (List.replicate a.length false ++ false :: g) a.length = (a.any (W x) || (keep b g).any (W x)) := by
 rw [Bool.eq_iff_iff]
 unfold rhit
 rw [getD_mid]
 simp only [List.any_eq_true, List.mem_range, Bool.and_eq_true, decide_eq_true_eq, Bool.or_eq_true, Bool.not_eq_true']
 constructor
 ·rintro ⟨k, hk, ⟨hne, hgk⟩, h⟩
  rcases Nat.lt_trichotomy k a.length with h1 | h1 | h1
  ·refine .inl ⟨a[k], List.getElem_mem h1, ?_⟩
   simpa [List.getD, List.getElem?_append_left h1, h1] using h
  ·exact absurd h1 hne
  ·obtain ⟨m, rfl⟩ : ∃ m, k = a.length + (m + 1) := ⟨k - a.length - 1, by omega⟩
   have hm : m < b.length := by simp at hk; omega
   refine .inr ⟨b[m], (mem_keep b g _ hg).2 ⟨m, hm, ?_, rfl⟩, ?_⟩
   ·simpa [List.getD, List.getElem?_append_right] using hgk
   ·simpa [List.getD, List.getElem?_append_right, hm] using h
 ·rintro (⟨y, hy, h⟩ | ⟨y, hy, h⟩)
  ·obtain ⟨k, hk, rfl⟩ := List.getElem_of_mem hy
   refine ⟨k, by simp; omega, ⟨by omega, ?_⟩, ?_⟩
   ·simp [List.getD, List.getElem?_append_left, hk]
   ·simpa [List.getD, List.getElem?_append_left hk, hk] using h
  ·obtain ⟨k, hk, h1, rfl⟩ := (mem_keep b g y hg).1 hy
   refine ⟨a.length + (k + 1), by simp; omega, ⟨by omega, ?_⟩, ?_⟩
   ·simpa [List.getD, List.getElem?_append_right] using h1
   ·simpa [List.getD, List.getElem?_append_right, hk] using h
theorem erase_mid (a c : List α) (x : α) : (a ++ x :: c).eraseIdx a.length = a ++ c := by
 induction a with
 | nil => rfl
 | cons y a ih => simpa using ih
theorem set_mid (a c : List Bool) (x y : Bool) : (a ++ x :: c).set a.length y = a ++ y :: c := by
 induction a with
 | nil => rfl
 | cons w a _ => simp
theorem go_gone (l : List α) : ∀ j, j ≤ l.length → ∃ g, g.length = j ∧ gone z W l j = List.replicate (l.length - j) false ++ g ∧ go z W l.length l = go z W (l.length - j) (keep l (gone z W l j))
 | 0, _ => ⟨[], rfl, by simp [gone], by
  have h := keep_app l [] []
  simp only [List.append_nil] at h
  rw [gone, h]
  simp [keep]⟩
 | j + 1, hj => by
  obtain ⟨g, hl, hg, he⟩ := go_gone l j (by omega)
  obtain ⟨m, hm⟩ : ∃ m, l.length - j = m + 1 := ⟨l.length - j - 1, by omega⟩
  have hm1 : l.length - 1 - j = m := by omega
  have hm2 : l.length - (j + 1) = m := by omega
  have hml : m < l.length := by omega
  have hsplit : l = l.take m ++ l[m] :: l.drop (m + 1) := by rw [List.getElem_cons_drop, List.take_append_drop]
  have hta : (l.take m).length = m := by rw [List.length_take]; omega
  have hdl : g.length = (l.drop (m + 1)).length := by rw [List.length_drop]; omega
  rw [hm] at hg he
  have hg2 : gone z W l j = List.replicate (l.take m).length false ++ false :: g := by rw [hg, hta, List.replicate_succ', List.append_assoc]; rfl
  have hr : rhit z W l (gone z W l j) m = ((l.take m).any (W l[m]) || (keep (l.drop (m + 1)) g).any (W l[m])) := by
   have h := rhit_split z W (l.take m) (l.drop (m + 1)) l[m] g hdl
   rw [← hsplit, ← hg2, hta] at h
   exact h
  have hk : keep l (gone z W l j) = l.take m ++ l[m] :: keep (l.drop (m + 1)) g := by
   have h := keep_app (l.take m) (l[m] :: l.drop (m + 1)) (false :: g)
   rw [← hsplit, ← hg2] at h
   rw [h]
   rfl
  have hs : gone z W l (j + 1) = List.replicate m false ++ (rhit z W l (gone z W l j) m) :: g := by
   rw [gone, hm1]
   generalize rhit z W l (gone z W l j) m = r
   rw [hg2]
   have h := set_mid (List.replicate (l.take m).length false) g false r
   rw [List.length_replicate, hta] at h
   rw [hta]
   exact h
  refine ⟨(rhit z W l (gone z W l j) m) :: g, by simp [hl], by rw [hs, hm2], ?_⟩
  rw [he, hk, hm2, go]
  have hh := hit_split z W (l.take m) (keep (l.drop (m + 1)) g) l[m]
  rw [hta] at hh
  rw [hh, ← hr]
  have h2 : keep l (gone z W l (j + 1)) = l.take m ++ (if rhit z W l (gone z W l j) m = true then keep (l.drop (m + 1)) g else l[m] :: keep (l.drop (m + 1)) g) := by
   have h := keep_app (l.take m) (l[m] :: l.drop (m + 1)) (rhit z W l (gone z W l j) m :: g)
   rw [← hsplit, hta, ← hs] at h
   rw [h, keep]
  rw [h2]
  congr 1
  by_cases hc : rhit z W l (gone z W l j) m = true
  ·rw [if_pos hc, if_pos hc]
   have h := erase_mid (l.take m) (keep (l.drop (m + 1)) g) l[m]
   rw [hta] at h
   exact h
  ·rw [if_neg hc, if_neg hc]
/-- the program's way and the reference's leave the same list -/
theorem law (l : List α) : go z W l.length l = keep l (gone z W l l.length) := by
 obtain ⟨g, _, _, h⟩ := go_gone z W l l.length (Nat.le_refl _)
 rw [h, Nat.sub_self, go]
end
end LeastLaw

namespace Go.Proofs.YtfomjbbebgajcaaGreatDoor.Giv
open Go.RowKit Go.Proofs.YtfomjbbebgajcaaGreatDoorW.PrintWords Go.Proofs.YtfomjbbebgajcaaGreatDoorW.PrintLast Go.Proofs.YtfomjbbebgajcaaGreatDoorW.PrintMore Go.Proofs.YtfomjbbebgajcaaGreatDoor.MCoverLeast
set_option linter.unusedVariables false
set_option linter.unusedSimpArgs false
set_option maxRecDepth 100000
def Wi (x y : ByteArray) : Bool := Cr.within (Cr.bl x) (Cr.bl y)
theorem rWithin (f g : ByteArray) (hf : f.size ≤ 140000) (hg : g.size ≤ 140000) (k : Nat) (hk : 50000000 < k) : crierref6_Within.f k f g = some (Wi f g) := by
 obtain ⟨t, ht⟩ := rOutside f g hf hg k hk
 unfold crierref6_Within.f Wi Cr.within
 rw [ht]
 cases Cr.outside (Cr.bl f) (Cr.bl g) <;> rfl
theorem getD_lt {α : Type} {l : List α} {i : Nat} (z : α) (h : i < l.length) : l.getD i z = l[i] := by simp [List.getD, h]
theorem rdb {l : List Bool} {z : Bool} (i : Nat) : rdOf z l (i : Int) = l.getD i z := rfl
theorem w64n {i : Nat} (h : i ≤ 1000000) : wrap64 ((i : Int) + 1) = ((i + 1 : Nat) : Int) := by unfold wrap64; omega
theorem w64m {i : Nat} (h : i ≤ 1000000) : wrap64 ((i : Int) - 1) = (i : Int) - 1 := by unfold wrap64; omega
theorem keep_len {α : Type} : ∀ (l : List α) (g : List Bool), (LeastLaw.keep l g).length ≤ l.length
 | [], _ => by simp [LeastLaw.keep]
 | x :: l, [] => by simp [LeastLaw.keep]
 | x :: l, b :: g => by
  have := keep_len l g
  rw [LeastLaw.keep]
  split <;> simp <;> omega
/-- the last loop -/
theorem rl2 (l : List ByteArray) (g : List Bool) (hg : g.length = l.length) (hl : l.length ≤ 1000000) : ∀ (d i : Nat) (acc : List ByteArray), l.length - i = d → i ≤ l.length → acc.length ≤ i → ∀ k, d < k → crierref6_Least.l2 k l g acc (i : Int) = some (acc ++ LeastLaw.keep (l.drop i) (g.drop i))
 | 0, i, acc, hd, hi, ha, k, hk => by
  obtain ⟨k, rfl⟩ : ∃ q, k = q + 1 := ⟨k - 1, by omega⟩
  obtain rfl : i = l.length := by omega
  rw [crierref6_Least.l2, if_neg (by omega), List.drop_length]
  simp [LeastLaw.keep]
 | d + 1, i, acc, hd, hi, ha, k, hk => by
  obtain ⟨k, rfl⟩ : ∃ q, k = q + 1 := ⟨k - 1, by omega⟩
  have hil : i < l.length := by omega
  have hig : i < g.length := by omega
  rw [crierref6_Least.l2, if_pos (by omega), if_pos (by omega), if_pos (by omega), rdb, getD_lt false hig, w64n (by omega), List.drop_eq_getElem_cons hil, List.drop_eq_getElem_cons hig, LeastLaw.keep]
  by_cases hb : g[i] = true
  ·rw [if_pos hb, if_pos hb]
   exact rl2 l g hg hl d (i + 1) acc (by omega) (by omega) (by omega) k (by omega)
  ·rw [if_neg hb, if_neg hb, if_pos (by omega), rd_at l i hil]
   have h := rl2 l g hg hl d (i + 1) (acc ++ [l[i]]) (by omega) (by omega) (by simp; omega) k (by omega)
   rw [h, List.append_assoc]
   rfl
def tst (l : List ByteArray) (g : List Bool) (i j : Nat) : Bool := decide (j ≠ i) && !(g.getD j true) && Wi (l.getD i ByteArray.empty) (l.getD j ByteArray.empty)
def hitF (l : List ByteArray) (g : List Bool) (i : Nat) : Nat → Nat → Bool
 | 0, _ => false
 | d + 1, j => tst l g i j || hitF l g i d (j + 1)
theorem hitF_any (l : List ByteArray) (g : List Bool) (i : Nat) : ∀ d j, hitF l g i d j = (List.range' j d).any (tst l g i)
 | 0, j => rfl
 | d + 1, j => by rw [hitF, hitF_any l g i d (j + 1), List.range'_succ, List.any_cons]
theorem rhit_eq (l : List ByteArray) (g : List Bool) (i : Nat) : LeastLaw.rhit ByteArray.empty Wi l g i = hitF l g i l.length 0 := by
 rw [hitF_any, ← List.range_eq_range']
 rfl
theorem set_same {g : List Bool} {i : Nat} (h : i < g.length) {b : Bool} (hb : g[i] = b) : g.set i b = g := by subst hb; exact List.set_getElem_self h
/-- the loop over the others -/
theorem rl1 (l : List ByteArray) (hl : l.length ≤ 1000000) (hs : ∀ x ∈ l, x.size ≤ 140000) (i : Nat) (hi : i < l.length) (g : List Bool) (hg : g.length = l.length) (hgi : g[i]'(by omega) = false) {C : Nat} {R : List ByteArray} :
  ∀ (d j : Nat), l.length - j = d → j ≤ l.length → (∀ k, C ≤ k → crierref6_Least.l0 k l (g.set i (hitF l g i d j)) ((i : Int) - 1) = some R) → ∀ k, C + 50000002 + d < k → crierref6_Least.l1 k l g (i : Int) (j : Int) = some R
 | 0, j, hd, hj, next, k, hk => by
  obtain ⟨k, rfl⟩ : ∃ q, k = q + 1 := ⟨k - 1, by omega⟩
  rw [crierref6_Least.l1, if_neg (by omega), w64m (by omega)]
  have h := next k (by omega)
  rw [hitF, set_same (by omega) hgi] at h
  exact h
 | d + 1, j, hd, hj, next, k, hk => by
  obtain ⟨k, rfl⟩ : ∃ q, k = q + 1 := ⟨k - 1, by omega⟩
  have hjl : j < l.length := by omega
  have hjg : j < g.length := by omega
  have hig : i < g.length := by omega
  have ht : ((i : Int)).toNat = i := by omega
  rw [crierref6_Least.l1, if_pos (by omega), if_pos (by omega), if_pos (by omega), rdb, getD_lt false hig, hgi, if_neg (by decide), ht, w64n (by omega), set_same hig hgi]
  have go : tst l g i j = false → crierref6_Least.l1 k l g (i : Int) ((j + 1 : Nat) : Int) = some R := fun h0 =>
   rl1 l hl hs i hi g hg hgi d (j + 1) (by omega) (by omega) (fun k hk => by
    have h := next k hk
    rw [hitF, h0, Bool.false_or] at h
    exact h) k (by omega)
  by_cases hji : j = i
  ·subst hji
   rw [if_pos rfl]
   exact go (by simp [tst])
  ·rw [if_neg (by omega), if_pos (by omega), if_pos (by omega), rdb, getD_lt false hjg]
   by_cases hb : g[j] = true
   ·rw [if_pos hb]
    exact go (by simp [tst, List.getD, hjg, hb])
   ·rw [if_neg hb, if_pos (by omega), rd_at l i hi, rd_at l j hjl, rWithin _ _ (hs _ (List.getElem_mem hi)) (hs _ (List.getElem_mem hjl)) k (by omega), Option.bind_some]
    have hb' : g[j] = false := by simpa using hb
    have htst : tst l g i j = Wi l[i] l[j] := by simp [tst, List.getD, hjg, hjl, hi, hb', hji]
    by_cases hw : Wi l[i] l[j] = true
    ·rw [hw]
     have hn : ∀ k, C ≤ k → crierref6_Least.l0 k l (g.set i true) ((i : Int) - 1) = some R := fun k hk => by
      have h := next k hk
      rw [hitF, htst, hw, Bool.true_or] at h
      exact h
     obtain ⟨k, rfl⟩ : ∃ q, k = q + 1 := ⟨k - 1, by omega⟩
     rw [crierref6_Least.l1]
     have hsl : (g.set i true).length = l.length := by simp [hg]
     by_cases hj1 : j + 1 < l.length
     ·rw [if_pos (by omega), if_pos (by omega), if_pos (by omega), rdb, getD_lt false (by omega)]
      rw [if_pos (by simp), w64m (by omega)]
      exact hn k (by omega)
     ·rw [if_neg (by omega), w64m (by omega)]
      exact hn k (by omega)
    ·have hw' : Wi l[i] l[j] = false := by simpa using hw
     rw [hw', set_same hig hgi]
     exact go (htst.trans hw')
/-- the rounds, the last index first -/
theorem rl0 (l : List ByteArray) (hl : l.length ≤ 1000000) (hs : ∀ x ∈ l, x.size ≤ 140000) : ∀ m, m ≤ l.length → ∀ k, l.length + 2 + m * (50000010 + l.length) < k →
  crierref6_Least.l0 k l (LeastLaw.gone ByteArray.empty Wi l (l.length - m)) ((m : Int) - 1) = some (LeastLaw.keep l (LeastLaw.gone ByteArray.empty Wi l l.length))
 | 0, _, k, hk => by
  obtain ⟨k, rfl⟩ : ∃ q, k = q + 1 := ⟨k - 1, by omega⟩
  rw [crierref6_Least.l0, if_neg (by omega), Nat.sub_zero]
  have h := rl2 l (LeastLaw.gone ByteArray.empty Wi l l.length) (LeastLaw.gone_len _ _ _ _) hl l.length 0 [] (by omega) (by omega) (by simp) k (by omega)
  simpa using h
 | m + 1, hm, k, hk => by
  obtain ⟨k, rfl⟩ : ∃ q, k = q + 1 := ⟨k - 1, by omega⟩
  have e1 : ((m + 1 : Nat) : Int) - 1 = (m : Int) := by omega
  rw [Nat.succ_mul] at hk
  rw [e1, crierref6_Least.l0, if_pos (by omega)]
  have hgl := LeastLaw.gone_len ByteArray.empty Wi l (l.length - (m + 1))
  refine rl1 l hl hs m (by omega) _ hgl ?_ (C := l.length + 3 + m * (50000010 + l.length)) l.length 0 (by omega) (by omega) (fun k hk => ?_) k (by omega)
  ·obtain ⟨g, h1, h2, _⟩ := LeastLaw.go_gone ByteArray.empty Wi l (l.length - (m + 1)) (by omega)
   simp only [h2]
   rw [List.getElem_append_left (by simp; omega)]
   simp
  ·rw [← rhit_eq]
   have h := rl0 l hl hs m (by omega) k (by omega)
   have e2 : l.length - m = (l.length - (m + 1)) + 1 := by omega
   rw [e2, LeastLaw.gone, show l.length - 1 - (l.length - (m + 1)) = m by omega] at h
   exact h
theorem hitL_eq (l : List ByteArray) (i : Nat) : hitL l i = LeastLaw.hit ByteArray.empty Wi l i := rfl
theorem leastGo_eq : ∀ (i : Nat) (l : List ByteArray), leastGo i l = LeastLaw.go ByteArray.empty Wi i l
 | 0, l => rfl
 | i + 1, l => by rw [leastGo, LeastLaw.go, hitL_eq, leastGo_eq i]
/-- the reference's Least is the program's -/
theorem rLeast (l : List ByteArray) (hl : l.length ≤ 1000000) (hs : ∀ x ∈ l, x.size ≤ 140000) (k : Nat) (hk : l.length + 2 + l.length * (50000010 + l.length) < k) : crierref6_Least.f k l = some (leastGo l.length l) := by
 unfold crierref6_Least.f
 have h := rl0 l hl hs l.length (by omega) k hk
 rw [Nat.sub_self, LeastLaw.gone, ← LeastLaw.law, ← leastGo_eq] at h
 rw [if_pos (by omega), if_pos (by omega), w64m (by omega)]
 exact h
theorem leastGo_len (l : List ByteArray) : (leastGo l.length l).length ≤ l.length := by
 rw [leastGo_eq, LeastLaw.law]
 exact keep_len _ _
end Go.Proofs.YtfomjbbebgajcaaGreatDoor.Giv
