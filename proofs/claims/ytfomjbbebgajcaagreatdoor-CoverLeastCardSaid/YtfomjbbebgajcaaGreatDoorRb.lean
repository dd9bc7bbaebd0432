/- What the printed functions of the reference (crierref5, crierref6) compute: the same words on levels, texts, topics, filters as the program's own. -/
import Derived.Test.YtfomjbbebgajcaaGreatDoorMCoverLeastx
import Derived.Test.YtfomjbbebgajcaaGreatDoorObj
import Derived.Test.YtfomjbbebgajcaaGreatDoorRef
import Derived.Test.YtfomjbbebgajcaaGreatDoorBr
namespace Go.Proofs.YtfomjbbebgajcaaGreatDoor.Giv
open Go.RowKit Go.Proofs.YtfomjbbebgajcaaGreatDoorW.PrintWords Go.Proofs.YtfomjbbebgajcaaGreatDoorW.PrintLast Go.Proofs.YtfomjbbebgajcaaGreatDoorW.PrintMore Go.Proofs.YtfomjbbebgajcaaGreatDoor.MCoverLeast
set_option linter.unusedVariables false
set_option linter.unusedSimpArgs false

theorem bt_get (s : ByteArray) (i : Nat) (h : i < s.size) : bt s (i : Int) = ((s.get! i).toNat : Int) := by
 unfold bt
 have h' : (i : Int).toNat < s.size := h
 rw [dif_pos h', Cr.get_bl s i h]
 rfl
theorem bt_eq (s : ByteArray) (i : Nat) (h : i < s.size) (c : UInt8) (n : Int) (hn : (c.toNat : Int) = n) : bt s (i : Int) = n ↔ s.get! i = c := by
 rw [bt_get s i h]
 constructor
 ·intro e; exact UInt8.toNat_inj.1 (by omega)
 ·intro e; rw [e]; exact hn
theorem wrap_n {i n : Nat} (h : i ≤ n) (hn : n ≤ 1000000000000000) : wrap64 ((i : Int) + 1) = ((i + 1 : Nat) : Int) := by
 rw [wrap_in (by omega) (by omega)]; omega

/-! Levels -/
theorem rLevels_l (s : ByteArray) (hs : s.size ≤ 1000000) : ∀ (d i frm k : Nat) (out : List ByteArray), s.size - i = d → Lev s i frm out → d < k → crierref5_Levels.l0 k s out (frm : Int) (i : Int) = some (levelsB s) := by
 intro d
 induction d with
 | zero =>
  intro i frm k out hd hL hk
  obtain ⟨k, rfl⟩ : ∃ m, k = m + 1 := ⟨k - 1, by omega⟩
  have h1 := hL.1
  have h2 := hL.2.1
  have h3 := hL.2.2.1
  have he : i = s.size := by omega
  subst he
  rw [crierref5_Levels.l0, if_neg (by omega), if_pos (by omega), if_pos (by omega), if_pos (by omega), Lev.fin hL]
  simp
 | succ d ih =>
  intro i frm k out hd hL hk
  obtain ⟨k, rfl⟩ : ∃ m, k = m + 1 := ⟨k - 1, by omega⟩
  have h1 := hL.1
  have h2 := hL.2.1
  have h3 := hL.2.2.1
  have hi : i < s.size := by omega
  rw [crierref5_Levels.l0, if_pos (by omega), if_pos (by omega), wrap_n (n := 1000000) (by omega) (by omega)]
  by_cases hc : s.get! i = 47
  ·rw [if_pos ((bt_eq s i hi 47 47 rfl).2 hc), if_pos (by omega), if_pos (by omega), if_pos (by omega), if_pos (by omega)]
   simp only [Int.toNat_natCast]
   exact ih (i + 1) (i + 1) k _ (by omega) (hL.slash hi hc) (by omega)
  ·rw [if_neg (fun h => hc ((bt_eq s i hi 47 47 rfl).1 h))]
   refine ih (i + 1) frm k out (by omega) (hL.on (Nat.le_refl _) (by omega) (fun j hj1 hj2 => ?_)) (by omega)
   have : j = i := by omega
   rw [this]; exact hc
theorem rLevels (s : ByteArray) (hs : s.size ≤ 1000000) (k : Nat) (hk : s.size < k) : crierref5_Levels.f k s = some (levelsB s) := by
 unfold crierref5_Levels.f
 exact rLevels_l s hs s.size 0 0 k [] (by omega) (Lev.zero s) hk

/-! sign -/
theorem rsign_l (s : ByteArray) (hs : s.size ≤ 1000000) : ∀ (d i k : Nat), s.size - i = d → i ≤ s.size → d < k → crierref5_sign.l0 k s (i : Int) = some (Cr.wildIn ((Cr.bl s).drop i)) := by
 intro d
 induction d with
 | zero =>
  intro i k hd hi hk
  obtain ⟨k, rfl⟩ : ∃ m, k = m + 1 := ⟨k - 1, by omega⟩
  rw [crierref5_sign.l0, if_neg (by omega), List.drop_eq_nil_of_le (by rw [Cr.bl_len]; omega)]; rfl
 | succ d ih =>
  intro i k hd hi hk
  obtain ⟨k, rfl⟩ : ∃ m, k = m + 1 := ⟨k - 1, by omega⟩
  have hil : i < s.size := by omega
  rw [crierref5_sign.l0, if_pos (by omega), if_pos (by omega), wrap_n (n := 1000000) (by omega) (by omega), drop_cons s i hil]
  by_cases h1 : s.get! i = 43
  ·rw [if_pos ((bt_eq s i hil 43 43 rfl).2 h1)]; simp [Cr.wildIn, h1]
  ·rw [if_neg (fun h => h1 ((bt_eq s i hil 43 43 rfl).1 h))]
   by_cases h2 : s.get! i = 35
   ·rw [if_pos ((bt_eq s i hil 35 35 rfl).2 h2)]; simp [Cr.wildIn, h2]
   ·rw [if_neg (fun h => h2 ((bt_eq s i hil 35 35 rfl).1 h)), ih (i + 1) k (by omega) (by omega) (by omega)]
    simp [Cr.wildIn, h1, h2]
theorem rsign (s : ByteArray) (hs : s.size ≤ 1000000) (k : Nat) (hk : s.size < k) : crierref5_sign.f k s = some (Cr.wildIn (Cr.bl s)) := by
 unfold crierref5_sign.f
 have := rsign_l s hs s.size 0 k (by omega) (by omega) hk
 rwa [List.drop_zero] at this

/-! texts -/
def moreI (a : UInt8) : Int × Int × Int := match Cr.more a with | none => (-1, 0, 0) | some (n, lo, hi) => ((n : Int), (lo.toNat : Int), (hi.toNat : Int))
theorem rmore (a : UInt8) (k : Nat) (hk : 3 < k) : crierref5_more.f k (a.toNat : Int) = some (moreI a) := by
 obtain ⟨k, rfl⟩ : ∃ m, k = m + 3 := ⟨k - 3, by omega⟩
 have key : ∀ x : Fin 256, crierref5_more.f 3 ((UInt8.ofNat x.val).toNat : Int) = some (moreI (UInt8.ofNat x.val)) := by decide +kernel
 have mono : ∀ (n : Int), (crierref5_more.f 3 n = some (moreI a)) → crierref5_more.f (k + 3) n = some (moreI a) := by
  intro n h
  unfold crierref5_more.f at h ⊢
  simp only [crierref5_more.j0, crierref5_more.j1, crierref5_more.j2] at h ⊢
  exact h
 refine mono _ ?_
 have h1 := key ⟨a.toNat, a.toNat_lt⟩
 have h2 : UInt8.ofNat (⟨a.toNat, a.toNat_lt⟩ : Fin 256).val = a := UInt8.toNat_inj.1 (by simp)
 rw [h2] at h1
 exact h1
theorem conts_len' (n : Nat) (lo hi : UInt8) (x : Cr.T) (h : x.length < n) : Cr.conts n lo hi x = false := by
 rw [Bool.eq_false_iff]
 intro hc
 have := Cr.conts_len n lo hi x hc
 omega
theorem rText_l1 (s : ByteArray) (hs : s.size ≤ 1000000) (i n : Nat) (hin : i + n < s.size) (hn : n ≤ 3) {C : Nat} {R : Bool} (next : ∀ k, C ≤ k → crierref5_Text.l0 k s ((i + n + 1 : Nat) : Int) = some R) :
  ∀ (d j k : Nat) (lo hi : UInt8), n + 1 - j = d → 1 ≤ j → j ≤ n + 1 → C + d + 1 ≤ k → crierref5_Text.l1 k s (i : Int) (n : Int) (lo.toNat : Int) (hi.toNat : Int) (j : Int) = some (Cr.conts (n + 1 - j) lo hi ((Cr.bl s).drop (i + j)) && R) := by
 intro d
 induction d with
 | zero =>
  intro j k lo hi hd h1 h2 hk
  obtain ⟨k, rfl⟩ : ∃ m, k = m + 1 := ⟨k - 1, by omega⟩
  rw [crierref5_Text.l1, if_neg (by omega), hd]
  have e : wrap64 (wrap64 ((i : Int) + (n : Int)) + 1) = ((i + n + 1 : Nat) : Int) := by unfold wrap64; omega
  rw [e, next k (by omega)]
  simp [Cr.conts]
 | succ d ih =>
  intro j k lo hi hd h1 h2 hk
  obtain ⟨k, rfl⟩ : ∃ m, k = m + 1 := ⟨k - 1, by omega⟩
  have hij : i + j < s.size := by omega
  have e : wrap64 ((i : Int) + (j : Int)) = ((i + j : Nat) : Int) := by unfold wrap64; omega
  have e2 : wrap64 ((j : Int) + 1) = ((j + 1 : Nat) : Int) := wrap_n (n := 10) (by omega) (by omega)
  rw [crierref5_Text.l1, if_pos (by omega), e, if_pos (by omega), if_pos (by omega), bt_get s (i + j) hij, e2, hd, drop_cons s (i + j) hij]
  have step := ih (j + 1) k 128 191 (by omega) (by omega) (by omega) (by omega)
  rw [show n + 1 - (j + 1) = d by omega] at step
  by_cases c1 : lo ≤ s.get! (i + j)
  ·by_cases c2 : s.get! (i + j) ≤ hi
   ·have d1 : lo.toNat ≤ (s.get! (i + j)).toNat := c1
    have d2 : (s.get! (i + j)).toNat ≤ hi.toNat := c2
    rw [if_neg (by omega), if_neg (by omega)]
    refine step.trans ?_
    rw [Cr.conts, decide_eq_true c1, decide_eq_true c2]
    rfl
   ·have d1 : lo.toNat ≤ (s.get! (i + j)).toNat := c1
    have d2 : ¬ (s.get! (i + j)).toNat ≤ hi.toNat := c2
    rw [if_neg (by omega), if_pos (by omega), Cr.conts, decide_eq_false c2]
    simp
  ·have d1 : ¬ lo.toNat ≤ (s.get! (i + j)).toNat := c1
   rw [if_pos (by omega), Cr.conts, decide_eq_false c1]
   simp
theorem rText_l (s : ByteArray) (hs : s.size ≤ 1000000) : ∀ (d i k : Nat), s.size - i ≤ d → i ≤ s.size → 10 + 10 * d < k → crierref5_Text.l0 k s (i : Int) = some (Cr.okB ((Cr.bl s).drop i)) := by
 intro d
 induction d with
 | zero =>
  intro i k hd hi hk
  obtain ⟨k, rfl⟩ : ∃ m, k = m + 1 := ⟨k - 1, by omega⟩
  rw [crierref5_Text.l0, if_neg (by omega), List.drop_eq_nil_of_le (by rw [Cr.bl_len]; omega), Cr.okB_nil]
 | succ d ih =>
  intro i k hd hi hk
  obtain ⟨k, rfl⟩ : ∃ m, k = m + 2 := ⟨k - 2, by omega⟩
  by_cases hil : i < s.size
  ·rw [show k + 2 = (k + 1) + 1 from rfl, crierref5_Text.l0, if_pos (by omega), if_pos (by omega), drop_cons s i hil, Cr.okB_cons]
   by_cases h0 : s.get! i = 0
   ·rw [if_pos ((bt_eq s i hil 0 0 rfl).2 h0), if_pos h0]
   ·rw [if_neg (fun h => h0 ((bt_eq s i hil 0 0 rfl).1 h)), if_neg h0, bt_get s i hil, rmore _ _ (by omega)]
    simp only [Option.bind_some]
    unfold moreI
    cases hm : Cr.more (s.get! i) with
    | none =>
     simp only
     rw [if_pos (by decide), crierref5_Text.j1, if_pos rfl]
    | some v =>
     obtain ⟨n, lo, hi2⟩ := v
     have hn3 : n ≤ 3 := by
      unfold Cr.more at hm
      repeat' (split at hm)
      all_goals first | (cases hm; done) | (simp only [Option.some.injEq, Prod.mk.injEq] at hm; omega)
     have e : wrap64 ((i : Int) + (n : Int)) = ((i + n : Nat) : Int) := by unfold wrap64; omega
     simp only
     rw [if_neg (by omega), e, crierref5_Text.j1]
     have hlen : ((Cr.bl s).drop (i + 1)).length = s.size - (i + 1) := by rw [List.length_drop, Cr.bl_len]
     by_cases hge : ((i + n : Nat) : Int) ≥ (s.size : Int)
     ·rw [decide_eq_true hge, if_pos rfl, conts_len' n lo hi2 _ (by rw [hlen]; omega)]
      rfl
     ·rw [decide_eq_false hge, if_neg (by decide)]
      have := rText_l1 s hs i n (by omega) hn3 (C := 10 + 10 * d + 1) (R := Cr.okB ((Cr.bl s).drop (i + n + 1))) (fun k hk => ih (i + n + 1) k (by omega) (by omega) (by omega)) n 1 k lo hi2 (by omega) (by omega) (by omega) (by omega)
      rw [show ((1 : Nat) : Int) = 1 from rfl, show n + 1 - 1 = n by omega] at this
      rw [this, List.drop_drop]
      rw [show i + 1 + n = i + n + 1 by omega]
  ·rw [show k + 2 = (k + 1) + 1 from rfl, crierref5_Text.l0, if_neg (by omega), List.drop_eq_nil_of_le (by rw [Cr.bl_len]; omega), Cr.okB_nil]
theorem rText (s : ByteArray) (hs : s.size ≤ 1000000) (k : Nat) (hk : 10 + 10 * s.size < k) : crierref5_Text.f k s = some (Cr.isText (Cr.bl s)) := by
 unfold crierref5_Text.f Cr.isText
 rw [Cr.bl_len]
 by_cases h : (s.size : Int) > 65535
 ·rw [if_pos h, decide_eq_false (by omega)]; rfl
 ·have := rText_l s hs s.size 0 k (by omega) (by omega) hk
  rw [List.drop_zero] at this
  rw [if_neg h, decide_eq_true (by omega), Bool.true_and]
  exact this

/-! filters and topics -/
theorem rCF_l (l : List ByteArray) (hl : l.length ≤ 1000000) (hs : ∀ x ∈ l, x.size ≤ 100000) : ∀ (d i k : Nat), l.length - i = d → i ≤ l.length → 100001 + d < k → crierref5_CheckFilter.l0 k l (i : Int) = some (if Cr.okF (LL (l.drop i)) = true then 0 else 52) := by
 intro d
 induction d with
 | zero =>
  intro i k hd hi hk
  obtain ⟨k, rfl⟩ : ∃ m, k = m + 1 := ⟨k - 1, by omega⟩
  rw [crierref5_CheckFilter.l0, if_neg (by omega), List.drop_eq_nil_of_le (by omega)]; rfl
 | succ d ih =>
  intro i k hd hi hk
  obtain ⟨k, rfl⟩ : ∃ m, k = m + 1 := ⟨k - 1, by omega⟩
  have hil : i < l.length := by omega
  obtain ⟨x, hx⟩ : ∃ x, l[i] = x := ⟨_, rfl⟩
  have hxs : x.size ≤ 100000 := by rw [← hx]; exact hs _ (List.getElem_mem hil)
  have hdr := List.drop_eq_getElem_cons hil
  rw [hx] at hdr
  have hLL : LL (l.drop i) = Cr.bl x :: LL (l.drop (i + 1)) := by rw [hdr]; rfl
  have hemp : (LL (l.drop (i + 1))).isEmpty = decide (¬ i + 1 < l.length) := by
   rw [Bool.eq_iff_iff, decide_eq_true_eq, List.isEmpty_iff]
   constructor
   ·intro h
    have := congrArg List.length h
    rw [LL_len] at this
    simp at this; omega
   ·intro h
    rw [List.drop_eq_nil_of_le (by omega)]; rfl
  rw [crierref5_CheckFilter.l0, if_pos (by omega), if_pos (by omega), rd_at l i hil, hx, rsign x (by omega) k (by omega)]
  simp only [Option.bind_some]
  rw [wrap_n (n := 1000000) (by omega) (by omega), ih (i + 1) k (by omega) (by omega) (by omega), hLL, Cr.okF, hemp, tl]
  have hlen : (Cr.bl x).length = x.size := Cr.bl_len x
  have hH : ∀ p q : Option Int, (if Cr.bl x = ([35] : List UInt8) then p else q) = if Cr.bl x = Cr.H then p else q := fun p q => rfl
  rw [hH, hlen]
  cases hw : Cr.wildIn (Cr.bl x) with
  | true =>
   by_cases h1 : (x.size : Int) > 1
   ·rw [if_pos rfl, if_pos h1, decide_eq_false (by omega)]; rfl
   ·rw [if_pos rfl, if_neg h1, decide_eq_true (show x.size ≤ 1 by omega)]
    by_cases h2 : Cr.bl x = Cr.H
    ·rw [if_pos h2, h2]
     by_cases h3 : i + 1 < l.length
     ·rw [if_pos (by omega), decide_eq_false (by omega)]; rfl
     ·rw [if_neg (by omega), decide_eq_true (by omega)]; rfl
    ·rw [if_neg h2, show (Cr.bl x == Cr.H) = false from beq_eq_false_iff_ne.2 h2]; rfl
  | false =>
   have h2 : ¬ Cr.bl x = Cr.H := by intro h; rw [h] at hw; simp [Cr.wildIn] at hw
   rw [if_neg (by simp), if_neg h2, show (Cr.bl x == Cr.H) = false from beq_eq_false_iff_ne.2 h2]; rfl
theorem rCF (s : ByteArray) (hs : s.size ≤ 1000000) (k : Nat) (hk : 20000000 < k) : ∃ c, crierref5_CheckFilter.f k s = some c ∧ (c = 0 ↔ Cr.isFilter (Cr.bl s) = true) := by
 unfold crierref5_CheckFilter.f Cr.isFilter
 have hlen : (Cr.bl s).length = s.size := Cr.bl_len s
 by_cases h0 : (s.size : Int) = 0
 ·rw [if_pos h0]
  refine ⟨50, rfl, ?_⟩
  have : Cr.bl s = [] := List.length_eq_zero_iff.1 (by omega)
  rw [this]; decide
 ·rw [if_neg h0, rText s hs k (by omega)]
  simp only [Option.bind_some]
  have hne : (Cr.bl s).isEmpty = false := by
   rw [Bool.eq_false_iff]
   intro h
   have := List.isEmpty_iff.1 h
   rw [this] at hlen; simp at hlen; omega
  rw [hne]
  cases ht : Cr.isText (Cr.bl s) with
  | false => rw [if_neg (by simp)]; exact ⟨51, rfl, by simp⟩
  | true =>
   have hsz : s.size ≤ 65535 := by
    simp only [Cr.isText, Bool.and_eq_true, decide_eq_true_eq] at ht
    omega
   have h1 := levelsB_len s
   rw [if_pos rfl, rLevels s hs k (by omega)]
   simp only [Option.bind_some]
   have := rCF_l (levelsB s) (by omega) (fun x hx => by have := levelsB_size hx; omega) (levelsB s).length 0 k (by omega) (by omega) (by omega)
   rw [show ((0 : Nat) : Int) = 0 from rfl, List.drop_zero, LL_levelsB] at this
   rw [this]
   refine ⟨_, rfl, ?_⟩
   cases Cr.okF (Cr.levels (Cr.bl s)) <;> simp
theorem rCheck (s : ByteArray) (hs : s.size ≤ 1000000) (k : Nat) (hk : 20000000 < k) : ∃ c, crierref5_Check.f k s = some c ∧ (c = 0 ↔ Cr.isTopic (Cr.bl s) = true) := by
 unfold crierref5_Check.f Cr.isTopic
 have hlen : (Cr.bl s).length = s.size := Cr.bl_len s
 by_cases h0 : (s.size : Int) = 0
 ·rw [if_pos h0]
  refine ⟨50, rfl, ?_⟩
  have : Cr.bl s = [] := List.length_eq_zero_iff.1 (by omega)
  rw [this]; decide
 ·rw [if_neg h0, rText s hs k (by omega)]
  simp only [Option.bind_some]
  have hne : (Cr.bl s).isEmpty = false := by
   rw [Bool.eq_false_iff]
   intro h
   have := List.isEmpty_iff.1 h
   rw [this] at hlen; simp at hlen; omega
  rw [hne]
  cases ht : Cr.isText (Cr.bl s) with
  | false => rw [if_neg (by simp)]; exact ⟨51, rfl, by simp⟩
  | true =>
   rw [if_pos rfl, rsign s hs k (by omega)]
   simp only [Option.bind_some]
   cases Cr.wildIn (Cr.bl s) with
   | false => rw [if_neg (by simp)]; exact ⟨0, rfl, by simp⟩
   | true => rw [if_pos rfl]; exact ⟨52, rfl, by simp⟩
end Go.Proofs.YtfomjbbebgajcaaGreatDoor.Giv
/- What the printed functions of the reference (crierref5, crierref6) compute, part 2: joins, shared filters, matching, and the steps of its search. -/
namespace Go.Proofs.YtfomjbbebgajcaaGreatDoor.Giv
open Go.RowKit Go.Proofs.YtfomjbbebgajcaaGreatDoorW.PrintWords Go.Proofs.YtfomjbbebgajcaaGreatDoorW.PrintLast Go.Proofs.YtfomjbbebgajcaaGreatDoorW.PrintMore Go.Proofs.YtfomjbbebgajcaaGreatDoor.MCoverLeast
set_option linter.unusedVariables false
set_option linter.unusedSimpArgs false

/-! Join -/
theorem join_snoc : ∀ (l : List Cr.T) (x : Cr.T), l ≠ [] → Cr.join (l ++ [x]) = Cr.join l ++ 47 :: x
 | [], x, h => absurd rfl h
 | [a], x, _ => rfl
 | a :: b :: l, x, _ => by
  have h1 : Cr.join (a :: (b :: l ++ [x])) = a ++ 47 :: Cr.join (b :: l ++ [x]) := Cr.join_cons _ _ (by simp)
  have h2 : Cr.join (a :: b :: l) = a ++ 47 :: Cr.join (b :: l) := Cr.join_cons _ _ (by simp)
  have h3 := join_snoc (b :: l) x (by simp)
  show Cr.join (a :: (b :: l ++ [x])) = _
  rw [h1, h3, h2, List.append_assoc]; rfl
def B (t : Cr.T) : List Int := t.map fun b => (b.toNat : Int)
theorem bytesOf_B (s : ByteArray) : bytesOf s = B (Cr.bl s) := rfl
theorem strOfNums_B (t : Cr.T) : strOfNums (B t) = ofT t := by
 unfold strOfNums B ofT
 congr 2
 rw [List.map_map]
 conv => rhs; rw [← List.map_id t]
 refine List.map_congr_left (fun b _ => UInt8.toNat_inj.1 ?_)
 simp
theorem LL_take (a : List ByteArray) (i : Nat) : LL (a.take i) = (LL a).take i := by simp [LL, List.map_take]
theorem LL_take_snoc {l : List ByteArray} {i : Nat} (h : i < l.length) : LL (l.take (i + 1)) = LL (l.take i) ++ [Cr.bl l[i]] := by
 have h2 : l.take (i + 1) = l.take i ++ [l[i]] := by rw [List.take_add_one, List.getElem?_eq_getElem h]; rfl
 rw [h2]; unfold LL; rw [List.map_append]; rfl
theorem wt_take {l : List ByteArray} (i : Nat) : wt (LL (l.take i)) ≤ wt (LL l) := by
 have h := wt_append (LL (l.take i)) (LL (l.drop i))
 have h2 : LL (l.take i) ++ LL (l.drop i) = LL l := by rw [LL_take, LL_drop, List.take_append_drop]
 rw [h2] at h; omega
theorem B_len (t : Cr.T) : (B t).length = t.length := List.length_map _
theorem rJoin_l (l : List ByteArray) (hw : wt (LL l) ≤ 1000000000) : ∀ (d i k : Nat), l.length - i = d → i ≤ l.length → d < k → crierref5_Join.l0 k l (B (Cr.join (LL (l.take i)))) (i : Int) = some (joinB l) := by
 have hlw := wt_len (LL l)
 rw [LL_len] at hlw
 intro d
 induction d with
 | zero =>
  intro i k hd hi hk
  obtain ⟨k, rfl⟩ : ∃ m, k = m + 1 := ⟨k - 1, by omega⟩
  rw [crierref5_Join.l0, if_neg (by omega), List.take_of_length_le (by omega), strOfNums_B]; rfl
 | succ d ih =>
  intro i k hd hi hk
  obtain ⟨k, rfl⟩ : ∃ m, k = m + 1 := ⟨k - 1, by omega⟩
  have hil : i < l.length := by omega
  have step := ih (i + 1) k (by omega) (by omega) (by omega)
  have h1 := wt_take (l := l) i
  have h2 := wt_take (l := l) (i + 1)
  have h3 := wt_join (LL (l.take i))
  have h4 := LL_take_snoc hil
  have h5 : wt (LL (l.take i)) + ((Cr.bl l[i]).length + 1) ≤ wt (LL l) := by
   rw [h4, wt_append] at h2
   simpa [wt] using h2
  rw [Cr.bl_len] at h5
  rw [crierref5_Join.l0, if_pos (by omega), wrap_n (n := 1000000000) (by omega) (by omega), rd_at l i hil, bytesOf_B]
  by_cases h0 : i = 0
  ·subst h0
   rw [if_neg (by omega), if_pos (by omega)]
   have h6 : (B (Cr.join (LL (l.take 0)))).length = 0 := rfl
   rw [if_pos (by rw [h6]; omega)]
   rw [h4] at step
   have e : B (Cr.join (LL (l.take 0))) ++ B (Cr.bl l[0]) = B (Cr.join (LL (l.take 0) ++ [Cr.bl l[0]])) := rfl
   rw [e]; exact step
  ·have h6 := B_len (Cr.join (LL (l.take i)))
   rw [if_pos (by omega), if_pos (by omega)]
   simp only [Option.bind_some]
   rw [if_pos (by omega), if_pos (by rw [List.length_append]; show _ + 1 + _ < _; omega)]
   have hne : LL (l.take i) ≠ [] := by
    intro h
    have := congrArg List.length h
    rw [LL_len, List.length_take] at this
    have this : min i l.length = 0 := this
    omega
   rw [h4, join_snoc _ _ hne] at step
   have e : B (Cr.join (LL (l.take i))) ++ [47] ++ B (Cr.bl l[i]) = B (Cr.join (LL (l.take i)) ++ 47 :: Cr.bl l[i]) := by unfold B; simp
   rw [e]; exact step
theorem rJoin (l : List ByteArray) (hw : wt (LL l) ≤ 1000000000) (k : Nat) (hk : l.length < k) : crierref5_Join.f k l = some (joinB l) := by
 unfold crierref5_Join.f
 exact rJoin_l l hw l.length 0 k (by omega) (by omega) hk

/-! shared filters -/
theorem level_text {s : Cr.T} (h : Cr.isFilter s = true) {x : Cr.T} (hx : x ∈ Cr.levels s) (hl : x.length ≤ 65535) : Cr.isText x = true := by
 have := ((Cr.filter_parts h).2.1 x hx).2
 unfold Cr.isText
 rw [this, decide_eq_true hl]; rfl
theorem rShared (s : ByteArray) (hs : s.size ≤ 1000000) (k : Nat) (hk : 30000000 < k) : ∃ a b, crierref5_Shared.f k s = some (a, b, (Cr.shared (Cr.bl s)).isSome) := by
 obtain ⟨c, hc1, hc2⟩ := rCF s hs k (by omega)
 obtain ⟨k, rfl⟩ : ∃ m, k = m + 1 := ⟨k - 1, by omega⟩
 unfold crierref5_Shared.f
 rw [rLevels s hs _ (by omega), hc1]
 simp only [Option.bind_some]
 have hLL := LL_levelsB s
 have hszs : ∀ x ∈ levelsB s, x.size ≤ s.size := fun x hx => levelsB_size hx
 have hwt : wt (LL (levelsB s)) = s.size + 1 := by rw [LL_levelsB, wt_levels, Cr.bl_len]
 have jt : crierref5_Shared.j0 (k + 1) (levelsB s) true = some ((⟨#[]⟩ : ByteArray), (⟨#[]⟩ : ByteArray), false) := by rw [crierref5_Shared.j0, if_pos rfl]
 by_cases h0 : c = 0
 ·have hf := hc2.1 h0
  rw [if_pos h0, jt]
  unfold Cr.shared
  rw [← hLL]
  generalize hL : levelsB s = L at *
  match L with
  | [] => rw [if_pos (by simp)]; exact ⟨_, _, rfl⟩
  | [x] => rw [if_pos (by simp)]; exact ⟨_, _, rfl⟩
  | [x, y] => rw [if_pos (by simp)]; exact ⟨_, _, rfl⟩
  | x :: y :: z :: r =>
   rw [if_neg (by simp; omega), if_pos (by simp; omega), rd0, rd1, tl, tl, if_pos (show (1 : Int) < ((x :: y :: z :: r).length : Int) by simp; omega)]
   show ∃ a b, _ = some (a, b, (if Cr.bl x = Cr.share ∧ Cr.isTopic (Cr.bl y) = true ∧ Cr.isFilter (Cr.join (Cr.bl z :: LL r)) = true ∧ Cr.isFilter (Cr.bl s) = true then some (Cr.bl y, Cr.join (Cr.bl z :: LL r)) else none).isSome)
   have ysz := hszs y (by simp)
   have hy : Cr.isText (Cr.bl y) = true := level_text hf (by rw [← hLL]; simp [LL]) (by
    have := (Cr.filter_parts hf).2.2.2
    rw [Cr.bl_len] at this ⊢; omega)
   by_cases hx : Cr.bl x = Cr.share
   ·rw [if_pos (show Cr.bl x = ([36, 115, 104, 97, 114, 101] : List UInt8) from hx)]
    by_cases hye : Cr.bl y = []
    ·rw [if_pos hye, if_neg (fun h => by have := h.2.1; rw [hye] at this; simp [Cr.isTopic] at this)]
     exact ⟨_, _, rfl⟩
    ·rw [if_neg hye, rsign y (by omega) _ (by omega)]
     simp only [Option.bind_some]
     have hyt : Cr.isTopic (Cr.bl y) = !Cr.wildIn (Cr.bl y) := by
      unfold Cr.isTopic
      rw [hy]
      cases hb : Cr.bl y with
      | nil => exact absurd hb hye
      | cons a b => rfl
     rw [hyt]
     cases hw : Cr.wildIn (Cr.bl y) with
     | true =>
      rw [jt, if_neg (fun h => by have := h.2.1; simp at this)]
      exact ⟨_, _, rfl⟩
     | false =>
      rw [crierref5_Shared.j0, if_neg (by decide), if_pos (by simp; omega)]
      have hdr : (x :: y :: z :: r).drop 2 = z :: r := rfl
      have hwd : wt (LL (z :: r)) ≤ s.size + 1 := by
       have : wt (LL (x :: y :: z :: r)) = (Cr.bl x).length + 1 + ((Cr.bl y).length + 1 + wt (LL (z :: r))) := rfl
       omega
      have hj := wt_join (LL (z :: r))
      have hjs : (joinB (z :: r)).size = (Cr.join (LL (z :: r))).length := by rw [← Cr.bl_len, bl_joinB]
      have hlw := wt_len (LL (z :: r))
      rw [LL_len] at hlw
      rw [hdr, rJoin (z :: r) (by omega) _ (by omega)]
      simp only [Option.bind_some]
      have hsz := (Cr.filter_parts hf).2.2.2
      rw [Cr.bl_len] at hsz
      obtain ⟨c2, hd1, hd2⟩ := rCF (joinB (z :: r)) (by omega) k (by omega)
      rw [hd1]
      simp only [Option.bind_some]
      rw [bl_joinB] at hd2
      by_cases h2 : c2 = 0
      ·rw [if_pos h2, if_pos (by simp; omega), if_pos ⟨hx, by simp, hd2.1 h2, hf⟩]
       exact ⟨_, _, rfl⟩
      ·rw [if_neg h2, if_neg (fun h => h2 (hd2.2 h.2.2.1))]
       exact ⟨_, _, rfl⟩
   ·rw [if_neg (show ¬ Cr.bl x = ([36, 115, 104, 97, 114, 101] : List UInt8) from hx), if_neg (fun h => hx h.1)]
    exact ⟨_, _, rfl⟩
 ·rw [if_neg h0, jt]
  have hf : ¬ Cr.isFilter (Cr.bl s) = true := fun h => h0 (hc2.2 h)
  have : Cr.shared (Cr.bl s) = none := by
   unfold Cr.shared
   split
   ·rw [if_neg (fun h => hf h.2.2.2)]
   ·rfl
  rw [this]
  exact ⟨_, _, rfl⟩
theorem rPlain (s : ByteArray) (hs : s.size ≤ 1000000) (k : Nat) (hk : 30000000 < k) : crierref5_Plain.f k s = some (Cr.plain (Cr.bl s)) := by
 obtain ⟨a, b, h1⟩ := rShared s hs k hk
 obtain ⟨c, hc1, hc2⟩ := rCF s hs k (by omega)
 unfold crierref5_Plain.f Cr.plain
 rw [h1, hc1]
 simp only [Option.bind_some]
 by_cases h0 : c = 0
 ·rw [if_pos h0, hc2.1 h0]
  cases Cr.shared (Cr.bl s) <;> rfl
 ·rw [if_neg h0]
  have : Cr.isFilter (Cr.bl s) = false := by rw [Bool.eq_false_iff]; exact fun h => h0 (hc2.2 h)
  rw [this]; rfl

/-! matching -/
theorem rgoes_l (f t : List ByteArray) (hf : f.length ≤ 1000000) : ∀ (d i k : Nat), f.length - i = d → i ≤ f.length → i ≤ t.length → d < k → crierref5_goes.l0 k f t (i : Int) = some (Cr.goes (LL (f.drop i)) (LL (t.drop i))) := by
 intro d
 induction d with
 | zero =>
  intro i k hd hi hit hk
  obtain ⟨k, rfl⟩ : ∃ m, k = m + 1 := ⟨k - 1, by omega⟩
  rw [crierref5_goes.l0, if_neg (by omega), List.drop_eq_nil_of_le (show f.length ≤ i by omega)]
  show _ = some ((LL (t.drop i)).isEmpty)
  congr 1
  rw [Bool.eq_iff_iff, beq_iff_eq, List.isEmpty_iff, ← List.length_eq_zero_iff, LL_len, List.length_drop]
  omega
 | succ d ih =>
  intro i k hd hi hit hk
  obtain ⟨k, rfl⟩ : ∃ m, k = m + 1 := ⟨k - 1, by omega⟩
  have hil : i < f.length := by omega
  have hdf : LL (f.drop i) = Cr.bl f[i] :: LL (f.drop (i + 1)) := by rw [List.drop_eq_getElem_cons hil]; rfl
  rw [crierref5_goes.l0, if_pos (by omega), if_pos (by omega), rd_at f i hil, tl, hdf, wrap_n (n := 1000000) (by omega) (by omega)]
  by_cases hH : Cr.bl f[i] = Cr.H
  ·rw [if_pos (show Cr.bl f[i] = ([35] : List UInt8) from hH), hH, Cr.goes_hash]
  ·rw [if_neg (show ¬ Cr.bl f[i] = ([35] : List UInt8) from hH)]
   by_cases ht : i < t.length
   ·have hdt : LL (t.drop i) = Cr.bl t[i] :: LL (t.drop (i + 1)) := by rw [List.drop_eq_getElem_cons ht]; rfl
    have step := ih (i + 1) k (by omega) (by omega) (by omega) (by omega)
    rw [if_neg (by omega), hdt, Cr.goes_cons _ _ _ _ hH, rd_at t i ht, tl]
    by_cases hP : Cr.bl f[i] = Cr.P
    ·rw [if_pos (show Cr.bl f[i] = ([43] : List UInt8) from hP), step, decide_eq_true (Or.inl hP), Bool.true_and]
    ·rw [if_neg (show ¬ Cr.bl f[i] = ([43] : List UInt8) from hP), if_pos (by omega)]
     by_cases he : Cr.bl f[i] = Cr.bl t[i]
     ·rw [if_pos he, step, decide_eq_true (Or.inr he), Bool.true_and]
     ·rw [if_neg he, decide_eq_false (fun h => by rcases h with h | h; exact hP h; exact he h), Bool.false_and]
   ·rw [if_pos (by omega), List.drop_eq_nil_of_le (show t.length ≤ i by omega)]
    show _ = some (Cr.goes (Cr.bl f[i] :: LL (f.drop (i + 1))) [])
    rw [Cr.goes_nil _ _ hH]
theorem rgoes (f t : List ByteArray) (hf : f.length ≤ 1000000) (k : Nat) (hk : f.length < k) : crierref5_goes.f k f t = some (Cr.goes (LL f) (LL t)) := by
 unfold crierref5_goes.f
 have := rgoes_l f t hf f.length 0 k (by omega) (by omega) (by omega) hk
 rwa [List.drop_zero, List.drop_zero] at this
theorem sg_first {f : Cr.T} (h : Cr.isFilter f = true) : Cr.sg (Cr.fst (Cr.levels f)) = (f.head? == some 43 || f.head? == some 35) := by
 have hp := Cr.filter_parts h
 cases f with
 | nil => exact absurd rfl hp.2.2.1
 | cons c s =>
  by_cases hc : c = 47
  ·subst hc
   rw [show Cr.levels (47 :: s) = [] :: Cr.levels s by rw [Cr.levels]; rfl]
   rfl
  ·obtain ⟨l, r, h1, h2⟩ := Cr.levels_cons c s hc
   have hok := hp.1
   rw [h2] at hok ⊢
   show Cr.sg (c :: l) = (some c == some 43 || some c == some 35)
   by_cases hw : c = 43 ∨ c = 35
   ·have hwild : Cr.wildIn (c :: l) = true := by
     rcases hw with rfl | rfl <;> simp [Cr.wildIn]
    have hlen := Cr.okF_mem hok (c :: l) (by simp) hwild
    have hl : l = [] := List.length_eq_zero_iff.1 (by simpa using hlen)
    subst hl
    rcases hw with rfl | rfl <;> decide
   ·have h43 : c ≠ 43 := fun e => hw (.inl e)
    have h35 : c ≠ 35 := fun e => hw (.inr e)
    have e1 : (c :: l == Cr.P) = false := beq_eq_false_iff_ne.2 (fun e => h43 (by injection e))
    have e2 : (c :: l == Cr.H) = false := beq_eq_false_iff_ne.2 (fun e => h35 (by injection e))
    unfold Cr.sg
    rw [e1, e2, show (some c == some 43) = false from beq_eq_false_iff_ne.2 (fun e => h43 (Option.some.inj e)), show (some c == some 35) = false from beq_eq_false_iff_ne.2 (fun e => h35 (Option.some.inj e))]
theorem rMatch (a b : ByteArray) (ha : a.size ≤ 1000000) (hb : b.size ≤ 1000000) (k : Nat) (hk : 30000002 < k) : crierref5_Match.f k a b = some (Cr.mt (Cr.bl a) (Cr.bl b)) := by
 obtain ⟨c, hc1, hc2⟩ := rCheck b hb k (by omega)
 unfold crierref5_Match.f
 rw [rPlain a ha k (by omega), hc1]
 simp only [Option.bind_some]
 obtain ⟨k, rfl⟩ : ∃ m, k = m + 2 := ⟨k - 2, by omega⟩
 rw [show k + 2 = (k + 1) + 1 from rfl]
 have jt : crierref5_Match.j0 ((k + 1) + 1) a b true = some false := by rw [crierref5_Match.j0, if_pos rfl]
 rw [jt]
 unfold Cr.mt
 cases hp : Cr.plain (Cr.bl a) with
 | false => rw [if_neg (by decide)]; rfl
 | true =>
  rw [if_pos rfl]
  by_cases h0 : c = 0
  ·have ht := hc2.1 h0
   have hbp : 0 < b.size := by
    rcases Nat.eq_zero_or_pos b.size with h | h
    ·exfalso
     have : Cr.bl b = [] := List.length_eq_zero_iff.1 (by rw [Cr.bl_len]; exact h)
     rw [this] at ht; simp [Cr.isTopic] at ht
    ·exact h
   have hfl := Cr.plain_filter hp
   have hap : 0 < a.size := by
    rcases Nat.eq_zero_or_pos a.size with h | h
    ·exfalso
     exact (Cr.filter_parts hfl).2.2.1 (List.length_eq_zero_iff.1 (by rw [Cr.bl_len]; exact h))
    ·exact h
   have ea : (Cr.bl a).head? = some (a.get! 0) := by
    have := drop_cons a 0 hap
    rw [List.drop_zero] at this
    rw [this]; rfl
   have eb : (Cr.bl b).head? = some (b.get! 0) := by
    have := drop_cons b 0 hbp
    rw [List.drop_zero] at this
    rw [this]; rfl
   have b36 := bt_eq b 0 hbp 36 36 rfl
   have a43 := bt_eq a 0 hap 43 43 rfl
   have a35 := bt_eq a 0 hap 35 35 rfl
   rw [show ((0 : Nat) : Int) = 0 from rfl] at b36 a43 a35
   rw [show (c != 0) = false by rw [h0]; rfl, crierref5_Match.j0, if_neg (by decide), if_pos (by omega), if_pos (show (0 : Int) < (a.size : Int) by omega), ht, sg_first hfl, ea, eb]
   have j1f : crierref5_Match.j1 (k + 1) a b false = some (Cr.goes (Cr.levels (Cr.bl a)) (Cr.levels (Cr.bl b))) := by
    have l1 := levelsB_len a
    rw [crierref5_Match.j1, if_neg (by decide), rLevels a ha _ (by omega), rLevels b hb _ (by omega)]
    simp only [Option.bind_some]
    rw [rgoes _ _ (by have := (Cr.filter_parts hfl).2.2.2; rw [Cr.bl_len] at this; omega) _ (by omega), LL_levelsB, LL_levelsB]
    rfl
   have j1t : crierref5_Match.j1 (k + 1) a b true = some false := by rw [crierref5_Match.j1, if_pos rfl]
   by_cases h36 : b.get! 0 = 36
   ·rw [if_pos (b36.2 h36), h36]
    by_cases h43 : a.get! 0 = 43
    ·rw [if_pos (a43.2 h43), j1t, h43]; rfl
    ·rw [if_neg (fun h => h43 (a43.1 h))]
     by_cases h35 : a.get! 0 = 35
     ·rw [show (bt a 0 == 35) = true from beq_iff_eq.2 (a35.2 h35), j1t, h35]; rfl
     ·rw [show (bt a 0 == 35) = false from beq_eq_false_iff_ne.2 (fun h => h35 (a35.1 h)), j1f]
      simp [h43, h35]
   ·rw [if_neg (fun h => h36 (b36.1 h)), j1f]
    simp [h36]
  ·have : Cr.isTopic (Cr.bl b) = false := by rw [Bool.eq_false_iff]; exact fun h => h0 (hc2.2 h)
   rw [show (c != 0) = true from bne_iff_ne.2 h0, jt, this]; rfl

/-! the search's steps -/
theorem rright_l (l : List ByteArray) (hw : wt (LL l) ≤ 1000000000) : ∀ (d i k : Nat), l.length - i = d → i ≤ l.length → l.length + 10 + d < k →
  crierref6_right.l0 k l ((wt (LL (l.take i)) : Int) + ((l.length : Int) - (i : Int)) - 1) (i : Int) = some (if l ≠ [] ∧ 1 ≤ (Cr.join (LL l)).length ∧ (Cr.join (LL l)).length ≤ 65535 then (joinB l, true) else ((⟨#[]⟩ : ByteArray), false)) := by
 have hlw := wt_len (LL l)
 rw [LL_len] at hlw
 intro d
 induction d with
 | zero =>
  intro i k hd hi hk
  obtain ⟨k, rfl⟩ : ∃ m, k = m + 1 := ⟨k - 1, by omega⟩
  rw [crierref6_right.l0, if_neg (by omega), List.take_of_length_le (by omega)]
  by_cases hne : l = []
  ·subst hne
   rw [if_pos (by simp [LL, wt]; omega), if_neg (fun h => h.1 rfl)]
  ·have hlne : LL l ≠ [] := by intro h; exact hne (by have := congrArg List.length h; rw [LL_len] at this; exact List.length_eq_zero_iff.1 this)
   have hj := wt_join_eq (LL l) hlne
   by_cases h1 : 1 ≤ (Cr.join (LL l)).length
   ·by_cases h2 : (Cr.join (LL l)).length ≤ 65535
    ·rw [if_neg (by omega), if_neg (by omega), if_pos ⟨hne, h1, h2⟩, rJoin l hw k (by omega)]; rfl
    ·rw [if_neg (by omega), if_pos (by omega), if_neg (fun h => h2 h.2.2)]
   ·rw [if_pos (by omega), if_neg (fun h => h1 h.2.1)]
 | succ d ih =>
  intro i k hd hi hk
  obtain ⟨k, rfl⟩ : ∃ m, k = m + 1 := ⟨k - 1, by omega⟩
  have hil : i < l.length := by omega
  have step := ih (i + 1) k (by omega) (by omega) (by omega)
  have h1 := wt_take (l := l) (i + 1)
  have h4 := LL_take_snoc hil
  have h5 : wt (LL (l.take (i + 1))) = wt (LL (l.take i)) + (l[i].size + 1) := by
   rw [h4, wt_append, ← Cr.bl_len]; rfl
  rw [crierref6_right.l0, if_pos (by omega), if_pos (by omega), rd_at l i hil, wrap_n (n := 1000000000) (by omega) (by omega)]
  have e : wrap64 ((wt (LL (l.take i)) : Int) + ((l.length : Int) - (i : Int)) - 1 + (l[i].size : Int)) = (wt (LL (l.take (i + 1))) : Int) + ((l.length : Int) - ((i + 1 : Nat) : Int)) - 1 := by unfold wrap64; omega
  rw [e]; exact step
theorem rright (l : List ByteArray) (hw : wt (LL l) ≤ 1000000000) (k : Nat) (hk : 2 * l.length + 10 < k) : crierref6_right.f k l = some (if l ≠ [] ∧ 1 ≤ (Cr.join (LL l)).length ∧ (Cr.join (LL l)).length ≤ 65535 then (joinB l, true) else ((⟨#[]⟩ : ByteArray), false)) := by
 have hlw := wt_len (LL l)
 rw [LL_len] at hlw
 unfold crierref6_right.f
 have := rright_l l hw l.length 0 k (by omega) (by omega) (by omega)
 rw [← this]
 congr 1
 simp [LL, wt]
 unfold wrap64
 omega
theorem LL_nil {l : List ByteArray} : LL l ≠ [] ↔ l ≠ [] := by
 constructor
 ·intro h e; rw [e] at h; exact h rfl
 ·intro h e; exact h (by have := congrArg List.length e; rw [LL_len] at this; exact List.length_eq_zero_iff.1 this)
theorem rshows (l : List ByteArray) (f g : ByteArray) (hw : wt (LL l) ≤ 1000000000) (hf : f.size ≤ 1000000) (hg : g.size ≤ 1000000) (hl : l.length ≤ 10000000) (k : Nat) (hk : 30000002 < k) :
  crierref6_shows.f k l f g = some (if Cr.shw (LL l) (Cr.bl f) (Cr.bl g) = true then (joinB l, true) else ((⟨#[]⟩ : ByteArray), false)) := by
 unfold crierref6_shows.f Cr.shw
 rw [rright l hw k (by omega)]
 simp only [Option.bind_some]
 by_cases h : l ≠ [] ∧ 1 ≤ (Cr.join (LL l)).length ∧ (Cr.join (LL l)).length ≤ 65535
 ·have hjs : (joinB l).size ≤ 1000000 := by rw [← Cr.bl_len, bl_joinB]; omega
  rw [if_pos h, if_pos rfl, rMatch f (joinB l) hf hjs k hk, rMatch g (joinB l) hg hjs k hk]
  simp only [Option.bind_some]
  rw [bl_joinB, decide_eq_true (LL_nil.2 h.1), decide_eq_true h.2]
  cases Cr.mt (Cr.bl f) (Cr.join (LL l)) <;> cases Cr.mt (Cr.bl g) (Cr.join (LL l)) <;> rfl
 ·rw [if_neg h, if_neg (by decide)]
  by_cases h1 : l ≠ []
  ·rw [decide_eq_false (fun h2 => h ⟨h1, h2⟩)]; simp
  ·have : ¬ LL l ≠ [] := fun h2 => h1 (LL_nil.1 h2)
   rw [decide_eq_false this]; simp
theorem levelsB_pos (s : ByteArray) : 0 < (levelsB s).length := by
 rcases Nat.eq_zero_or_pos (levelsB s).length with h | h
 ·exfalso
  have h1 := LL_levelsB s
  rw [List.length_eq_zero_iff.1 h] at h1
  exact Cr.levels_ne _ h1.symm
 ·exact h
theorem ropen (s : ByteArray) (hs : s.size ≤ 1000000) (k : Nat) (hk : 1000000 < k) : ∃ l, crierref6_open.f k s = some (l, (Cr.opn (Cr.levels (Cr.bl s))).2) ∧ LL l = (Cr.opn (Cr.levels (Cr.bl s))).1 ∧ l.length ≤ (levelsB s).length := by
 unfold crierref6_open.f
 rw [rLevels s hs k (by omega)]
 simp only [Option.bind_some]
 have hpos := levelsB_pos s
 have hlen := levelsB_len s
 have e : wrap64 (((levelsB s).length : Int) - 1) = (((levelsB s).length - 1 : Nat) : Int) := by unfold wrap64; omega
 have hl1 : (levelsB s).length - 1 < (levelsB s).length := by omega
 rw [e, if_pos (by omega), if_pos (by omega), rd_at (levelsB s) _ hl1, tl, if_pos (show (((levelsB s).length - 1 : Nat) : Int) ≤ ((levelsB s).length : Int) by omega), Int.toNat_natCast, ← LL_levelsB]
 unfold Cr.opn
 have hlast : (LL (levelsB s)).getLast? = some (Cr.bl (levelsB s)[(levelsB s).length - 1]) := by
  rw [List.getLast?_eq_getElem?, LL_len]
  unfold LL
  rw [List.getElem?_map, List.getElem?_eq_getElem hl1]; rfl
 rw [hlast]
 by_cases hH : Cr.bl (levelsB s)[(levelsB s).length - 1] = Cr.H
 ·rw [if_pos (show Cr.bl (levelsB s)[(levelsB s).length - 1] = ([35] : List UInt8) from hH), if_pos (by rw [hH])]
  refine ⟨_, rfl, ?_, by rw [List.length_take]; omega⟩
  rw [LL_take, List.dropLast_eq_take, LL_len]
 ·rw [if_neg (show ¬ Cr.bl (levelsB s)[(levelsB s).length - 1] = ([35] : List UInt8) from hH), if_neg (fun h => hH (Option.some.inj h))]
  exact ⟨_, rfl, rfl, Nat.le_refl _⟩
theorem ralive (l : List ByteArray) (no : ByteArray) (k : Nat) (hk : 0 < k) : ∃ r, crierref6_alive.f k l no = some r ∧ LL r = Cr.alive (LL l) (Cr.bl no) ∧ r.length = l.length := by
 obtain ⟨k, rfl⟩ : ∃ m, k = m + 1 := ⟨k - 1, by omega⟩
 unfold crierref6_alive.f Cr.alive
 by_cases h1 : (l.length : Int) = 1
 ·match l, h1 with
  | [x], _ =>
   rw [if_pos (by simp), if_pos (by simp), rd0, crierref6_alive.j0, tl, tl]
   by_cases hx : Cr.bl x = []
   ·rw [hx, show (([] : Cr.T) == ([] : List UInt8)) = true from rfl, if_pos rfl, if_pos (show LL [x] = [[]] by show [Cr.bl x] = _; rw [hx])]
    by_cases hn : Cr.bl no = [97]
    ·rw [if_pos hn, if_pos hn]; exact ⟨_, rfl, rfl, rfl⟩
    ·rw [if_neg hn, if_neg hn]; exact ⟨_, rfl, rfl, rfl⟩
   ·rw [show (Cr.bl x == ([] : List UInt8)) = false from beq_eq_false_iff_ne.2 hx, if_neg (by decide), if_neg (show ¬ LL [x] = [[]] by intro h; exact hx (by simpa [LL] using h))]
    exact ⟨_, rfl, rfl, rfl⟩
 ·rw [if_neg h1, crierref6_alive.j0, if_neg (by decide), if_neg (fun h => h1 (by have := congrArg List.length h; rw [LL_len] at this; simp at this; omega))]
  exact ⟨_, rfl, rfl, rfl⟩
theorem rfill_l1 (n : Nat) (hn : n ≤ 10000000) : ∀ (d k : Nat) (acc : List ByteArray), n - acc.length = d → acc.length ≤ 10000000 → d < k → crierref6_fill.l1 k (n : Int) acc = some (acc ++ List.replicate (n - acc.length) (⟨#[]⟩ : ByteArray)) := by
 intro d
 induction d with
 | zero =>
  intro k acc hd ha hk
  obtain ⟨k, rfl⟩ : ∃ m, k = m + 1 := ⟨k - 1, by omega⟩
  rw [crierref6_fill.l1, if_neg (by omega), hd]; simp
 | succ d ih =>
  intro k acc hd ha hk
  obtain ⟨k, rfl⟩ : ∃ m, k = m + 1 := ⟨k - 1, by omega⟩
  rw [crierref6_fill.l1, if_pos (by omega), if_pos (by omega), ih k _ (by simp; omega) (by simp; omega) (by omega), hd]
  have : n - (acc ++ [(⟨#[]⟩ : ByteArray)]).length = d := by simp; omega
  rw [this, List.append_assoc]
  rfl
theorem rfill_l0 (l : List ByteArray) (n : Nat) (hn : n ≤ 10000000) (hl : l.length ≤ 1000000) : ∀ (d i k : Nat) (acc : List ByteArray), l.length - i = d → i ≤ l.length → acc.length = i → LL acc = (LL (l.take i)).map Cr.lv → d + n + 1 < k →
  ∃ r, crierref6_fill.l0 k l (n : Int) acc (i : Int) = some r ∧ LL r = Cr.fill (LL l) n ∧ r.length = max l.length n := by
 intro d
 induction d with
 | zero =>
  intro i k acc hd hi ha hacc hk
  obtain ⟨k, rfl⟩ : ∃ m, k = m + 1 := ⟨k - 1, by omega⟩
  rw [crierref6_fill.l0, if_neg (by omega), rfill_l1 n hn (n - acc.length) k acc rfl (by omega) (by omega)]
  refine ⟨_, rfl, ?_, by simp; omega⟩
  rw [List.take_of_length_le (by omega)] at hacc
  unfold Cr.fill
  rw [← hacc, LL_len]
  simp only [LL, List.map_append, List.map_replicate]
  rw [show acc.length = l.length by omega]
 | succ d ih =>
  intro i k acc hd hi ha hacc hk
  obtain ⟨k, rfl⟩ : ∃ m, k = m + 1 := ⟨k - 1, by omega⟩
  have hil : i < l.length := by omega
  have h4 := LL_take_snoc hil
  rw [crierref6_fill.l0, if_pos (by omega), if_pos (by omega), rd_at l i hil, tl, wrap_n (n := 1000000) (by omega) (by omega)]
  by_cases hP : Cr.bl l[i] = Cr.P
  ·rw [if_pos (show Cr.bl l[i] = ([43] : List UInt8) from hP), if_pos (by omega)]
   refine ih (i + 1) k _ (by omega) (by omega) (by simp; omega) ?_ (by omega)
   rw [h4, List.map_append, ← hacc, hP]
   simp [LL, Cr.lv]
  ·rw [if_neg (show ¬ Cr.bl l[i] = ([43] : List UInt8) from hP), if_pos (by omega)]
   refine ih (i + 1) k _ (by omega) (by omega) (by simp; omega) ?_ (by omega)
   rw [h4, List.map_append, ← hacc]
   simp [LL, Cr.lv, hP]
theorem rfill (l : List ByteArray) (n : Nat) (hn : n ≤ 10000000) (hl : l.length ≤ 1000000) (k : Nat) (hk : 20000000 < k) : ∃ r, crierref6_fill.f k l (n : Int) = some r ∧ LL r = Cr.fill (LL l) n ∧ r.length = max l.length n := by
 unfold crierref6_fill.f
 exact rfill_l0 l n hn hl l.length 0 k [] (by omega) (by omega) rfl rfl (by omega)
end Go.Proofs.YtfomjbbebgajcaaGreatDoor.Giv
/- What the printed crierref6.Meet tells: Cr.meetOk. -/
namespace Go.Proofs.YtfomjbbebgajcaaGreatDoor.Giv
open Go.RowKit Go.Proofs.YtfomjbbebgajcaaGreatDoorW.PrintWords Go.Proofs.YtfomjbbebgajcaaGreatDoorW.PrintLast Go.Proofs.YtfomjbbebgajcaaGreatDoorW.PrintMore Go.Proofs.YtfomjbbebgajcaaGreatDoor.MCoverLeast
set_option linter.unusedVariables false
set_option linter.unusedSimpArgs false

theorem mx_nat (a b : Nat) : mx (a : Int) (b : Int) = ((max a b : Nat) : Int) := by
 unfold mx
 split <;> omega
theorem wt_lv : ∀ l : List Cr.T, wt (l.map Cr.lv) ≤ wt l
 | [] => Nat.le_refl _
 | a :: l => by
  have h1 := wt_lv l
  have h2 : (Cr.lv a).length ≤ a.length := by unfold Cr.lv; split <;> simp
  show (Cr.lv a).length + 1 + wt (l.map Cr.lv) ≤ a.length + 1 + wt l
  omega
theorem wt_rep : ∀ n : Nat, wt (List.replicate n ([] : Cr.T)) = n
 | 0 => rfl
 | n + 1 => by
  show 0 + 1 + wt (List.replicate n ([] : Cr.T)) = n + 1
  rw [wt_rep n]; omega
theorem wt_fill (l : List Cr.T) (n : Nat) : wt (Cr.fill l n) ≤ wt l + n := by
 unfold Cr.fill
 rw [wt_append, wt_rep]
 have := wt_lv l
 omega
theorem wt_alive (l : List Cr.T) (no : Cr.T) : wt (Cr.alive l no) ≤ wt l + 2 := by
 unfold Cr.alive
 split
 ·split <;> simp [wt]
 ·omega
theorem wt_opn (L : List Cr.T) : wt (Cr.opn L).1 ≤ wt L := by
 unfold Cr.opn
 split
 ·rename_i h
  have hne : L ≠ [] := by intro e; rw [e] at h; simp at h
  have h2 := wt_append L.dropLast [L.getLast hne]
  rw [List.dropLast_concat_getLast hne] at h2
  show wt L.dropLast ≤ wt L
  omega
 ·exact Nat.le_refl _
theorem wt_set (l : List Cr.T) : ∀ (i : Nat) (c : Cr.T), wt (l.set i c) ≤ wt l + c.length := by
 induction l with
 | nil => intro i c; simp [wt]
 | cons a l ih =>
  intro i c
  cases i with
  | zero => show c.length + 1 + wt l ≤ a.length + 1 + wt l + c.length; omega
  | succ i =>
   have := ih i c
   show a.length + 1 + wt (l.set i c) ≤ a.length + 1 + wt l + c.length
   omega
theorem LL_set (l : List ByteArray) (i : Nat) (c : ByteArray) : LL (l.set i c) = (LL l).set i (Cr.bl c) := by simp [LL, List.map_set]

end Go.Proofs.YtfomjbbebgajcaaGreatDoor.Giv
/- What the printed crierref6.Outside tells: Cr.outOk. -/
namespace Go.Proofs.YtfomjbbebgajcaaGreatDoor.Giv
open Go.RowKit Go.Proofs.YtfomjbbebgajcaaGreatDoorW.PrintWords Go.Proofs.YtfomjbbebgajcaaGreatDoorW.PrintLast Go.Proofs.YtfomjbbebgajcaaGreatDoorW.PrintMore Go.Proofs.YtfomjbbebgajcaaGreatDoor.MCoverLeast
set_option linter.unusedVariables false
set_option linter.unusedSimpArgs false

/-! Outside -/
def anyF (p : Nat → Bool) : Nat → Nat → Bool
 | _, 0 => false
 | i, d + 1 => p i || anyF p (i + 1) d
theorem anyF_iff (p : Nat → Bool) : ∀ (d i : Nat), anyF p i d = true ↔ ∃ j, i ≤ j ∧ j < i + d ∧ p j = true
 | 0, i => by
  constructor
  ·intro h; simp [anyF] at h
  ·rintro ⟨j, h1, h2, _⟩; omega
 | d + 1, i => by
  rw [anyF, Bool.or_eq_true, anyF_iff p d (i + 1)]
  constructor
  ·rintro (h | ⟨j, h1, h2, h3⟩)
   ·exact ⟨i, Nat.le_refl _, by omega, h⟩
   ·exact ⟨j, by omega, by omega, h3⟩
  ·rintro ⟨j, h1, h2, h3⟩
   by_cases hj : j = i
   ·subst hj; exact .inl h3
   ·exact .inr ⟨j, by omega, by omega, h3⟩

section
variable (f g : ByteArray) (hf : f.size ≤ 140000) (hg : g.size ≤ 140000) (x y : List ByteArray) (o : Bool) (m : Nat) (hx : x.length ≤ 200000) (hy : y.length ≤ 200000) (hm : m ≤ 200000) (hw : wt (LL x) ≤ 200000)
include hf hg hx hy hm hw

theorem rOut_l1 (hxm : x.length ≤ m) : ∀ (d i k : Nat), y.length - i = d → i ≤ y.length → 40000010 + 3 * d < k →
  ∃ t, crierref6_Outside.l1 k f g x o (m : Int) y (i : Int) = some (t, anyF (fun i => Cr.spot (LL x) (LL y) o i && Cr.shw ((Cr.fill (LL x) (max m (i + 1))).set i [97]) (Cr.bl f) (Cr.bl g)) i d) := by
 intro d
 induction d with
 | zero =>
  intro i k hd hi hk
  obtain ⟨k, rfl⟩ : ∃ m, k = m + 1 := ⟨k - 1, by omega⟩
  rw [crierref6_Outside.l1, if_neg (by omega)]
  exact ⟨_, rfl⟩
 | succ d ih =>
  intro i k hd hi hk
  obtain ⟨k, rfl⟩ : ∃ m, k = m + 2 := ⟨k - 2, by omega⟩
  have hyi : i < y.length := by omega
  have hwr : Unit → wrap64 ((i : Int) + 1) = ((i + 1 : Nat) : Int) := fun _ => wrap_n (n := 1000000) (by omega) (by omega)
  obtain ⟨t0, ht0⟩ := ih (i + 1) k (by omega) (by omega) (by omega)
  have j4 : ∀ b : Bool, Cr.spot (LL x) (LL y) o i = !b → ∃ t, crierref6_Outside.j4 (k + 1) f g x o (m : Int) y (i : Int) b = some (t, anyF (fun i => Cr.spot (LL x) (LL y) o i && Cr.shw ((Cr.fill (LL x) (max m (i + 1))).set i [97]) (Cr.bl f) (Cr.bl g)) i (d + 1)) := by
   intro b hb
   rw [crierref6_Outside.j4, anyF, hb, hwr ()]
   cases b with
   | true => rw [if_pos rfl]; exact ⟨t0, ht0⟩
   | false =>
    rw [if_neg (by decide), mx_nat]
    obtain ⟨q, hq, hq1, hq2, hq3⟩ : ∃ q, max m (i + 1) = q ∧ m ≤ q ∧ i + 1 ≤ q ∧ q ≤ m + i + 1 := ⟨_, rfl, Nat.le_max_left _ _, Nat.le_max_right _ _, by omega⟩
    rw [hq]
    clear hq
    obtain ⟨r, h1, h2, h3⟩ := rfill x q (by omega) (by omega) k (by omega)
    rw [h1]
    simp only [Option.bind_some]
    have h4 := wt_fill (LL x) q
    have h5 := wt_set (LL r) i [97]
    have h6 : LL (r.set i (⟨#[97]⟩ : ByteArray)) = (Cr.fill (LL x) q).set i [97] := by rw [LL_set, h2]
    have h8 : q ≤ r.length := by rw [h3]; exact Nat.le_max_right _ _
    have h9 : r.length ≤ 1000000 := by rw [h3]; exact Nat.max_le.2 ⟨by omega, by omega⟩
    clear h3
    rw [h2] at h5
    have h7 : ([97] : Cr.T).length = 1 := rfl
    rw [if_pos (by omega), if_pos (by omega), Int.toNat_natCast, rshows (r.set i (⟨#[97]⟩ : ByteArray)) f g (by rw [h6]; omega) (by omega) (by omega) (by rw [List.length_set]; omega) k (by omega), h6]
    simp only [Option.bind_some]
    cases Cr.shw ((Cr.fill (LL x) q).set i [97]) (Cr.bl f) (Cr.bl g) with
    | true => rw [if_pos rfl, if_pos rfl]; exact ⟨_, rfl⟩
    | false => simp only [Bool.false_eq_true, if_false]; exact ⟨t0, ht0⟩
  have gy : (LL y).getD i [] = Cr.bl y[i] := by
   unfold LL
   rw [List.getD_eq_getElem?_getD, List.getElem?_map, List.getElem?_eq_getElem hyi]; rfl
  have hne : (y[i].toList != ([] : List UInt8)) = (Cr.bl y[i] != []) := by rw [tl]
  rw [show k + 2 = (k + 1) + 1 from rfl, crierref6_Outside.l1, if_pos (by omega), rd_at y i hyi, hne]
  by_cases hxi : i < x.length
  ·have gx : (LL x).getD i [] = Cr.bl x[i] := by
    unfold LL
    rw [List.getD_eq_getElem?_getD, List.getElem?_map, List.getElem?_eq_getElem hxi]; rfl
   rw [if_pos (by omega), if_pos (by omega), rd_at x i hxi, tl]
   by_cases hP : Cr.bl x[i] = Cr.P
   ·rw [if_pos (show Cr.bl x[i] = ([43] : List UInt8) from hP), if_neg (by omega)]
    refine j4 _ ?_
    unfold Cr.spot
    rw [gx, gy, LL_len, decide_eq_true hxi, decide_eq_false (by omega), hP]
    rfl
   ·rw [if_neg (show ¬ Cr.bl x[i] = ([43] : List UInt8) from hP)]
    refine j4 _ ?_
    unfold Cr.spot
    rw [gx, gy, LL_len, decide_eq_true hxi, show (Cr.bl x[i] != Cr.P) = true from bne_iff_ne.2 hP]
    rfl
  ·rw [if_neg (by omega), if_pos (by omega)]
   cases o with
   | true =>
    rw [if_pos rfl, if_pos (by omega)]
    refine j4 _ ?_
    unfold Cr.spot
    rw [gy, LL_len, decide_eq_false hxi, decide_eq_true (by omega)]
    rfl
   | false =>
    rw [if_neg (by decide)]
    refine j4 _ ?_
    unfold Cr.spot
    rw [gy, LL_len, decide_eq_false hxi, decide_eq_true (by omega)]
    rfl

theorem rOut_l0 (hxm : x.length ≤ m) (M : Nat) (hmx : mx (m : Int) (y.length : Int) = (M : Int)) (hM : M ≤ 400000) : ∀ (d i k : Nat), M + 2 - i = d → m ≤ i → i ≤ M + 2 → 40000020 + 3 * y.length + d < k →
  ∃ t, crierref6_Outside.l0 k f g x o (m : Int) y (i : Int) = some (t, anyF (fun n => Cr.shw (Cr.fill (LL x) n) (Cr.bl f) (Cr.bl g)) i d || anyF (fun i => Cr.spot (LL x) (LL y) o i && Cr.shw ((Cr.fill (LL x) (max m (i + 1))).set i [97]) (Cr.bl f) (Cr.bl g)) 0 y.length) := by
 intro d
 have e1 : Unit → wrap64 ((M : Int) + 1) = ((M + 1 : Nat) : Int) := fun _ => wrap_n (n := 1000000) (by omega) (by omega)
 induction d with
 | zero =>
  intro i k hd hi hi2 hk
  obtain ⟨k, rfl⟩ : ∃ m, k = m + 2 := ⟨k - 2, by omega⟩
  rw [show k + 2 = (k + 1) + 1 from rfl, crierref6_Outside.l0, hmx, e1 (), if_neg (by omega), crierref6_Outside.j2]
  obtain ⟨t, ht⟩ := rOut_l1 f g hf hg x y o m hx hy hm hw hxm y.length 0 k (by omega) (by omega) (by omega)
  exact ⟨t, ht⟩
 | succ d ih =>
  intro i k hd hi hi2 hk
  obtain ⟨k, rfl⟩ : ∃ m, k = m + 1 := ⟨k - 1, by omega⟩
  have hwr : Unit → wrap64 ((i : Int) + 1) = ((i + 1 : Nat) : Int) := fun _ => wrap_n (n := 1000000) (by omega) (by omega)
  obtain ⟨r, h1, h2, h3⟩ := rfill x i (by omega) (by omega) k (by omega)
  have h9 : r.length ≤ 1000000 := by rw [h3]; exact Nat.max_le.2 ⟨by omega, by omega⟩
  clear h3
  have h4 := wt_fill (LL x) i
  rw [crierref6_Outside.l0, hmx, e1 (), if_pos (by omega), h1]
  simp only [Option.bind_some]
  rw [rshows r f g (by rw [h2]; omega) (by omega) (by omega) (by omega) k (by omega), h2, hwr (), anyF]
  simp only [Option.bind_some]
  obtain ⟨t0, ht0⟩ := ih (i + 1) k (by omega) (by omega) (by omega) (by omega)
  cases Cr.shw (Cr.fill (LL x) i) (Cr.bl f) (Cr.bl g) with
  | true => rw [if_pos rfl, if_pos rfl]; exact ⟨_, rfl⟩
  | false => simp only [Bool.false_eq_true, if_false]; exact ⟨t0, ht0⟩
end

theorem rOutside (f g : ByteArray) (hf : f.size ≤ 140000) (hg : g.size ≤ 140000) (k : Nat) (hk : 50000000 < k) : ∃ t, crierref6_Outside.f k f g = some (t, (Cr.outside (Cr.bl f) (Cr.bl g)).isSome) := by
 rw [← Cr.out_ref]
 unfold crierref6_Outside.f Cr.outOk
 rw [rPlain f (by omega) k (by omega)]
 simp only [Option.bind_some]
 cases hp : Cr.plain (Cr.bl f) with
 | false => rw [if_neg (by decide)]; exact ⟨_, rfl⟩
 | true =>
  rw [if_pos rfl]
  obtain ⟨x, hx1, hx2, hx3⟩ := ropen f (by omega) k (by omega)
  have lx := levelsB_len f
  have wx : wt (LL x) ≤ f.size + 1 := by
   rw [hx2]
   have := wt_opn (Cr.levels (Cr.bl f))
   rw [wt_levels, Cr.bl_len] at this; exact this
  rw [hx1]
  simp only [Option.bind_some]
  rw [← hx2, LL_len]
  generalize (Cr.opn (Cr.levels (Cr.bl f))).2 = o
  have em : mx (x.length : Int) 1 = ((max x.length 1 : Nat) : Int) := mx_nat x.length 1
  obtain ⟨m, hm, hm1, hm2, hm3⟩ : ∃ m, max x.length 1 = m ∧ x.length ≤ m ∧ 1 ≤ m ∧ m ≤ x.length + 1 := ⟨_, rfl, Nat.le_max_left _ _, Nat.le_max_right _ _, by omega⟩
  rw [hm] at em ⊢
  clear hm
  have em1 : Unit → wrap64 (((m : Nat) : Int) + 1) = ((m + 1 : Nat) : Int) := fun _ => wrap_n (n := 1000000) (by omega) (by omega)
  have em2 : Unit → wrap64 (((m : Nat) : Int) + 2) = ((m + 2 : Nat) : Int) := fun _ => by unfold wrap64; omega
  rw [em, em1 ()]
  obtain ⟨r, h1, h2, h3⟩ := rfill x m (by omega) (by omega) k (by omega)
  have h9 : r.length ≤ 1000000 := by rw [h3]; exact Nat.max_le.2 ⟨by omega, by omega⟩
  clear h3
  have w1 := wt_fill (LL x) (m)
  rw [h1]
  simp only [Option.bind_some]
  obtain ⟨ra, ha1, ha2, ha3⟩ := ralive r ⟨#[]⟩ k (by omega)
  obtain ⟨rb, hb1, hb2, hb3⟩ := ralive r ⟨#[97]⟩ k (by omega)
  have wa := wt_alive (LL r) (Cr.bl ⟨#[]⟩)
  have wb := wt_alive (LL r) (Cr.bl ⟨#[97]⟩)
  rw [h2] at ha2 hb2 wa wb
  rw [ha1, hb1]
  simp only [Option.bind_some]
  rw [rshows ra f g (by rw [ha2]; omega) (by omega) (by omega) (by omega) k (by omega), rshows rb f g (by rw [hb2]; omega) (by omega) (by omega) (by omega) k (by omega), ha2, hb2]
  simp only [Option.bind_some]
  rw [show Cr.bl (⟨#[]⟩ : ByteArray) = [] from rfl, show Cr.bl (⟨#[97]⟩ : ByteArray) = [97] from rfl]
  cases Cr.shw (Cr.alive (Cr.fill (LL x) (m)) []) (Cr.bl f) (Cr.bl g) with
  | true => rw [if_pos rfl, if_pos rfl]; exact ⟨_, rfl⟩
  | false =>
   simp only [Bool.false_eq_true, if_false]
   cases Cr.shw (Cr.alive (Cr.fill (LL x) (m)) [97]) (Cr.bl f) (Cr.bl g) with
   | true => rw [if_pos rfl, if_pos rfl]; exact ⟨_, rfl⟩
   | false =>
    simp only [Bool.false_eq_true, if_false]
    -- the rest: g
    have rest : ∃ t, crierref6_Outside.j0 k f g x o ((m : Nat) : Int) = some (t, Cr.plain (Cr.bl g) && ((o && (List.range (max (m) (Cr.opn (Cr.levels (Cr.bl g))).1.length + 2)).any fun n => decide (m + 2 ≤ n) && Cr.shw (Cr.fill (LL x) n) (Cr.bl f) (Cr.bl g)) ||
      (List.range (Cr.opn (Cr.levels (Cr.bl g))).1.length).any fun i => Cr.spot (LL x) (Cr.opn (Cr.levels (Cr.bl g))).1 o i && Cr.shw ((Cr.fill (LL x) (max (m) (i + 1))).set i [97]) (Cr.bl f) (Cr.bl g))) := by
     obtain ⟨k, rfl⟩ : ∃ m, k = m + 2 := ⟨k - 2, by omega⟩
     rw [show k + 2 = (k + 1) + 1 from rfl, crierref6_Outside.j0, rPlain g (by omega) _ (by omega)]
     simp only [Option.bind_some]
     cases hq : Cr.plain (Cr.bl g) with
     | false => rw [if_neg (by decide)]; exact ⟨_, rfl⟩
     | true =>
      obtain ⟨y, hy1, hy2, hy3⟩ := ropen g (by omega) (k + 1) (by omega)
      have ly := levelsB_len g
      rw [if_pos rfl, hy1]
      simp only [Option.bind_some]
      rw [← hy2, LL_len, em2 (), Bool.true_and]
      have eB : anyF (fun i => Cr.spot (LL x) (LL y) o i && Cr.shw ((Cr.fill (LL x) (max (m) (i + 1))).set i [97]) (Cr.bl f) (Cr.bl g)) 0 y.length = (List.range y.length).any fun i => Cr.spot (LL x) (LL y) o i && Cr.shw ((Cr.fill (LL x) (max (m) (i + 1))).set i [97]) (Cr.bl f) (Cr.bl g) := by
       rw [Bool.eq_iff_iff, anyF_iff, List.any_eq_true]
       constructor
       ·rintro ⟨j, _, h6, h7⟩; exact ⟨j, List.mem_range.2 (by omega), h7⟩
       ·rintro ⟨j, h6, h7⟩; exact ⟨j, Nat.zero_le _, by have := List.mem_range.1 h6; omega, h7⟩
      cases o with
      | false =>
       rw [if_neg (by decide), crierref6_Outside.j2]
       obtain ⟨t, ht⟩ := rOut_l1 f g hf hg x y false (m) (by omega) (by omega) (by omega) (by omega) (by omega) y.length 0 k (by omega) (by omega) (by omega)
       refine ⟨t, ht.trans ?_⟩
       rw [eB, Bool.false_and, Bool.false_or]
      | true =>
       rw [if_pos rfl]
       obtain ⟨M, hM, hM1, hM2, hM3⟩ : ∃ M, max m y.length = M ∧ m ≤ M ∧ y.length ≤ M ∧ M ≤ m + y.length := ⟨_, rfl, Nat.le_max_left _ _, Nat.le_max_right _ _, by omega⟩
       have hmx : mx (m : Int) (y.length : Int) = (M : Int) := by rw [mx_nat, hM]
       rw [hM]
       clear hM
       obtain ⟨t, ht⟩ := rOut_l0 f g hf hg x y true m (by omega) (by omega) (by omega) (by omega) (by omega) M hmx (by omega) (M + 2 - (m + 2)) (m + 2) (k + 1) (by omega) (by omega) (by omega) (by omega)
       refine ⟨t, ht.trans ?_⟩
       rw [eB, Bool.true_and]
       have eA : anyF (fun n => Cr.shw (Cr.fill (LL x) n) (Cr.bl f) (Cr.bl g)) (m + 2) (M + 2 - (m + 2)) = (List.range (M + 2)).any fun n => decide (m + 2 ≤ n) && Cr.shw (Cr.fill (LL x) n) (Cr.bl f) (Cr.bl g) := by
        rw [Bool.eq_iff_iff, anyF_iff, List.any_eq_true]
        constructor
        ·rintro ⟨j, h5, h6, h7⟩
         refine ⟨j, List.mem_range.2 (by omega), ?_⟩
         rw [decide_eq_true h5, h7]; rfl
        ·rintro ⟨j, h6, h7⟩
         rw [Bool.and_eq_true, decide_eq_true_eq] at h7
         exact ⟨j, h7.1, by have := List.mem_range.1 h6; omega, h7.2⟩
       rw [eA]
    obtain ⟨t0, ht0⟩ := rest
    rw [ht0, Bool.false_or, Bool.false_or]
    cases o with
    | false => rw [if_neg (by decide)]; exact ⟨_, rfl⟩
    | true =>
     obtain ⟨r3, h31, h32, h33⟩ := rfill x (m + 1) (by omega) (by omega) k (by omega)
     have h39 : r3.length ≤ 1000000 := by rw [h33]; exact Nat.max_le.2 ⟨by omega, by omega⟩
     clear h33
     have w3 := wt_fill (LL x) (m + 1)
     rw [if_pos rfl, h31]
     simp only [Option.bind_some]
     rw [rshows r3 f g (by rw [h32]; omega) (by omega) (by omega) (by omega) k (by omega), h32]
     simp only [Option.bind_some]
     cases Cr.shw (Cr.fill (LL x) (m + 1)) (Cr.bl f) (Cr.bl g) with
     | true => rw [if_pos rfl, if_pos rfl]; exact ⟨_, rfl⟩
     | false => simp only [Bool.false_eq_true, if_false]; exact ⟨_, rfl⟩
end Go.Proofs.YtfomjbbebgajcaaGreatDoor.Giv
