/- What the printed functions of the reference (crierref5) compute: texts, topics, filters, as the program's own words say. -/
import Derived.Test.YtndhkgfeknkfdaaGreatDoorMPacketChecksx
import Derived.Test.YtndhkgfeknkfdaaGreatDoorUtf
namespace Go.Proofs.YtndhkgfeknkfdaaGreatDoor.Giv
open Go.RowKit Go.Proofs.YtndhkgfeknkfdaaGreatDoorW.PrintWords Go.Proofs.YtndhkgfeknkfdaaGreatDoorW.PrintLast Go.Proofs.YtndhkgfeknkfdaaGreatDoorW.PrintMore Go.Proofs.YtndhkgfeknkfdaaGreatDoor.MPacketChecks
set_option linter.unusedVariables false
set_option linter.unusedSimpArgs false
theorem tl (x : ByteArray) : x.toList = Cr.bl x := Lib.toList_data x
def ct (s : ByteArray) : Int := if txt s = 0 then (if Cr.wildIn (Cr.bl s) = true then 52 else 0) else txt s
theorem ct_ok (s : ByteArray) : ct s = 0 ↔ Cr.isTopic (Cr.bl s) = true := by
  unfold ct Cr.isTopic
  by_cases h : txt s = 0
  · rw [if_pos h]
    have := (txt_ok s).1 h
    have h1 : (Cr.bl s).isEmpty = false := by cases hb : Cr.bl s with
      | nil => exact absurd hb this.1
      | cons a b => rfl
    by_cases h2 : Cr.wildIn (Cr.bl s) = true
    · simp [h2]
    · simp [h2, h1, this.2]
  · rw [if_neg h]
    have := fun e => h ((txt_ok s).2 e)
    constructor
    · intro e; exact absurd e h
    · intro e
      simp only [Bool.and_eq_true, Bool.not_eq_true'] at e
      exact absurd ⟨fun z => by rw [z] at e; simp at e, e.1.2⟩ this
abbrev LL (l : List ByteArray) : List Cr.T := l.map Cr.bl
theorem LL_levelsB (s : ByteArray) : LL (levelsB s) = Cr.levels (Cr.bl s) := levelsB_map s
theorem LL_len (l : List ByteArray) : (LL l).length = l.length := List.length_map _
theorem levelsB_len (s : ByteArray) : (levelsB s).length ≤ s.size + 1 := by
  have := levels_count (Cr.bl s)
  rw [← LL_levelsB, LL_len, Cr.bl_len] at this; exact this
theorem levelsB_size {s x : ByteArray} (h : x ∈ levelsB s) : x.size ≤ s.size := by
  have h1 : Cr.bl x ∈ Cr.levels (Cr.bl s) := by rw [← LL_levelsB]; exact List.mem_map_of_mem h
  have h2 : Cr.join (Cr.levels (Cr.bl s)) = Cr.bl s := Cr.join_levels _
  rw [← Cr.bl_len, ← Cr.bl_len, ← h2]
  generalize Cr.levels (Cr.bl s) = l at h1
  generalize Cr.bl x = y at h1
  induction l with
  | nil => cases h1
  | cons z r ih =>
    cases r with
    | nil => simp at h1; subst h1; simp [Cr.join]
    | cons q r =>
      rw [Cr.join_cons z (q :: r) (by simp)]
      rcases List.mem_cons.1 h1 with rfl | h1
      · simp
      · have := ih h1; simp; omega
theorem wrap_in {i : Int} (h0 : 0 ≤ i) (h : i ≤ 9223372036854775806) : wrap64 (i + 1) = i + 1 := by unfold wrap64; omega
theorem rd_at (l : List ByteArray) (i : Nat) (h : i < l.length) : rdOf ByteArray.empty l (i : Int) = l[i] := by simp [rdOf, List.getD, h]
theorem bt_get (s : ByteArray) (i : Nat) (h : i < s.size) : bt s (i : Int) = ((s.get! i).toNat : Int) := by
  unfold bt
  have h' : (i : Int).toNat < s.size := h
  rw [dif_pos h', Cr.get_bl s i h]
  rfl
theorem bt_eq (s : ByteArray) (i : Nat) (h : i < s.size) (c : UInt8) (n : Int) (hn : (c.toNat : Int) = n) : bt s (i : Int) = n ↔ s.get! i = c := by
  rw [bt_get s i h]
  constructor
  · intro e; exact UInt8.toNat_inj.1 (by omega)
  · intro e; rw [e]; exact hn
theorem wrap_n {i n : Nat} (h : i ≤ n) (hn : n ≤ 1000000000000000) : wrap64 ((i : Int) + 1) = ((i + 1 : Nat) : Int) := by
  rw [wrap_in (by omega) (by omega)]; omega

/-! Levels -/
theorem rLevels_l (s : ByteArray) (hs : s.size ≤ 1000000) : ∀ (d i frm k : Nat) (out : List ByteArray), s.size - i = d → Lev s i frm out → d < k → crierref5_Levels.l0 k s out (frm : Int) (i : Int) = some (levelsB s) := by
  intro d
  induction d with
  | zero =>
    intro i frm k out hd hL hk
    obtain ⟨k, rfl⟩ : ∃ m, k = m + 1 := ⟨k - 1, by omega⟩
    have h1 := hL.1
    have h2 := hL.2.1
    have h3 := hL.2.2.1
    have he : i = s.size := by omega
    subst he
    rw [crierref5_Levels.l0, if_neg (by omega), if_pos (by omega), if_pos (by omega), if_pos (by omega), Lev.fin hL]
    simp
  | succ d ih =>
    intro i frm k out hd hL hk
    obtain ⟨k, rfl⟩ : ∃ m, k = m + 1 := ⟨k - 1, by omega⟩
    have h1 := hL.1
    have h2 := hL.2.1
    have h3 := hL.2.2.1
    have hi : i < s.size := by omega
    rw [crierref5_Levels.l0, if_pos (by omega), if_pos (by omega), wrap_n (n := 1000000) (by omega) (by omega)]
    by_cases hc : s.get! i = 47
    · rw [if_pos ((bt_eq s i hi 47 47 rfl).2 hc), if_pos (by omega), if_pos (by omega), if_pos (by omega), if_pos (by omega)]
      simp only [Int.toNat_natCast]
      exact ih (i + 1) (i + 1) k _ (by omega) (hL.slash hi hc) (by omega)
    · rw [if_neg (fun h => hc ((bt_eq s i hi 47 47 rfl).1 h))]
      refine ih (i + 1) frm k out (by omega) (hL.on (Nat.le_refl _) (by omega) (fun j hj1 hj2 => ?_)) (by omega)
      have : j = i := by omega
      rw [this]; exact hc
theorem rLevels (s : ByteArray) (hs : s.size ≤ 1000000) (k : Nat) (hk : s.size < k) : crierref5_Levels.f k s = some (levelsB s) := by
  unfold crierref5_Levels.f
  exact rLevels_l s hs s.size 0 0 k [] (by omega) (Lev.zero s) hk

/-! sign -/
theorem rsign_l (s : ByteArray) (hs : s.size ≤ 1000000) : ∀ (d i k : Nat), s.size - i = d → i ≤ s.size → d < k → crierref5_sign.l0 k s (i : Int) = some (Cr.wildIn ((Cr.bl s).drop i)) := by
  intro d
  induction d with
  | zero =>
    intro i k hd hi hk
    obtain ⟨k, rfl⟩ : ∃ m, k = m + 1 := ⟨k - 1, by omega⟩
    rw [crierref5_sign.l0, if_neg (by omega), List.drop_eq_nil_of_le (by rw [Cr.bl_len]; omega)]; rfl
  | succ d ih =>
    intro i k hd hi hk
    obtain ⟨k, rfl⟩ : ∃ m, k = m + 1 := ⟨k - 1, by omega⟩
    have hil : i < s.size := by omega
    rw [crierref5_sign.l0, if_pos (by omega), if_pos (by omega), wrap_n (n := 1000000) (by omega) (by omega), drop_cons s i hil]
    by_cases h1 : s.get! i = 43
    · rw [if_pos ((bt_eq s i hil 43 43 rfl).2 h1)]; simp [Cr.wildIn, h1]
    · rw [if_neg (fun h => h1 ((bt_eq s i hil 43 43 rfl).1 h))]
      by_cases h2 : s.get! i = 35
      · rw [if_pos ((bt_eq s i hil 35 35 rfl).2 h2)]; simp [Cr.wildIn, h2]
      · rw [if_neg (fun h => h2 ((bt_eq s i hil 35 35 rfl).1 h)), ih (i + 1) k (by omega) (by omega) (by omega)]
        simp [Cr.wildIn, h1, h2]
theorem rsign (s : ByteArray) (hs : s.size ≤ 1000000) (k : Nat) (hk : s.size < k) : crierref5_sign.f k s = some (Cr.wildIn (Cr.bl s)) := by
  unfold crierref5_sign.f
  have := rsign_l s hs s.size 0 k (by omega) (by omega) hk
  rwa [List.drop_zero] at this

/-! texts -/
def moreI (a : UInt8) : Int × Int × Int := match Cr.more a with | none => (-1, 0, 0) | some (n, lo, hi) => ((n : Int), (lo.toNat : Int), (hi.toNat : Int))
theorem rmore (a : UInt8) (k : Nat) (hk : 3 < k) : crierref5_more.f k (a.toNat : Int) = some (moreI a) := by
  obtain ⟨k, rfl⟩ : ∃ m, k = m + 3 := ⟨k - 3, by omega⟩
  have key : ∀ x : Fin 256, crierref5_more.f 3 ((UInt8.ofNat x.val).toNat : Int) = some (moreI (UInt8.ofNat x.val)) := by decide +kernel
  have mono : ∀ (n : Int), (crierref5_more.f 3 n = some (moreI a)) → crierref5_more.f (k + 3) n = some (moreI a) := by
    intro n h
    unfold crierref5_more.f at h ⊢
    simp only [crierref5_more.j0, crierref5_more.j1, crierref5_more.j2] at h ⊢
    exact h
  refine mono _ ?_
  have h1 := key ⟨a.toNat, a.toNat_lt⟩
  have h2 : UInt8.ofNat (⟨a.toNat, a.toNat_lt⟩ : Fin 256).val = a := UInt8.toNat_inj.1 (by simp)
  rw [h2] at h1
  exact h1
theorem conts_len' (n : Nat) (lo hi : UInt8) (x : Cr.T) (h : x.length < n) : Cr.conts n lo hi x = false := by
  rw [Bool.eq_false_iff]
  intro hc
  have := Cr.conts_len n lo hi x hc
  omega
theorem rText_l1 (s : ByteArray) (hs : s.size ≤ 1000000) (i n : Nat) (hin : i + n < s.size) (hn : n ≤ 3) {C : Nat} {R : Bool} (next : ∀ k, C ≤ k → crierref5_Text.l0 k s ((i + n + 1 : Nat) : Int) = some R) :
    ∀ (d j k : Nat) (lo hi : UInt8), n + 1 - j = d → 1 ≤ j → j ≤ n + 1 → C + d + 1 ≤ k → crierref5_Text.l1 k s (i : Int) (n : Int) (lo.toNat : Int) (hi.toNat : Int) (j : Int) = some (Cr.conts (n + 1 - j) lo hi ((Cr.bl s).drop (i + j)) && R) := by
  intro d
  induction d with
  | zero =>
    intro j k lo hi hd h1 h2 hk
    obtain ⟨k, rfl⟩ : ∃ m, k = m + 1 := ⟨k - 1, by omega⟩
    rw [crierref5_Text.l1, if_neg (by omega), hd]
    have e : wrap64 (wrap64 ((i : Int) + (n : Int)) + 1) = ((i + n + 1 : Nat) : Int) := by unfold wrap64; omega
    rw [e, next k (by omega)]
    simp [Cr.conts]
  | succ d ih =>
    intro j k lo hi hd h1 h2 hk
    obtain ⟨k, rfl⟩ : ∃ m, k = m + 1 := ⟨k - 1, by omega⟩
    have hij : i + j < s.size := by omega
    have e : wrap64 ((i : Int) + (j : Int)) = ((i + j : Nat) : Int) := by unfold wrap64; omega
    have e2 : wrap64 ((j : Int) + 1) = ((j + 1 : Nat) : Int) := wrap_n (n := 10) (by omega) (by omega)
    rw [crierref5_Text.l1, if_pos (by omega), e, if_pos (by omega), if_pos (by omega), bt_get s (i + j) hij, e2, hd, drop_cons s (i + j) hij]
    have step := ih (j + 1) k 128 191 (by omega) (by omega) (by omega) (by omega)
    rw [show n + 1 - (j + 1) = d by omega] at step
    by_cases c1 : lo ≤ s.get! (i + j)
    · by_cases c2 : s.get! (i + j) ≤ hi
      · have d1 : lo.toNat ≤ (s.get! (i + j)).toNat := c1
        have d2 : (s.get! (i + j)).toNat ≤ hi.toNat := c2
        rw [if_neg (by omega), if_neg (by omega)]
        refine step.trans ?_
        rw [Cr.conts, decide_eq_true c1, decide_eq_true c2]
        rfl
      · have d1 : lo.toNat ≤ (s.get! (i + j)).toNat := c1
        have d2 : ¬ (s.get! (i + j)).toNat ≤ hi.toNat := c2
        rw [if_neg (by omega), if_pos (by omega), Cr.conts, decide_eq_false c2]
        simp
    · have d1 : ¬ lo.toNat ≤ (s.get! (i + j)).toNat := c1
      rw [if_pos (by omega), Cr.conts, decide_eq_false c1]
      simp
theorem rText_l (s : ByteArray) (hs : s.size ≤ 1000000) : ∀ (d i k : Nat), s.size - i ≤ d → i ≤ s.size → 10 + 10 * d < k → crierref5_Text.l0 k s (i : Int) = some (Cr.okB ((Cr.bl s).drop i)) := by
  intro d
  induction d with
  | zero =>
    intro i k hd hi hk
    obtain ⟨k, rfl⟩ : ∃ m, k = m + 1 := ⟨k - 1, by omega⟩
    rw [crierref5_Text.l0, if_neg (by omega), List.drop_eq_nil_of_le (by rw [Cr.bl_len]; omega), Cr.okB_nil]
  | succ d ih =>
    intro i k hd hi hk
    obtain ⟨k, rfl⟩ : ∃ m, k = m + 2 := ⟨k - 2, by omega⟩
    by_cases hil : i < s.size
    · rw [show k + 2 = (k + 1) + 1 from rfl, crierref5_Text.l0, if_pos (by omega), if_pos (by omega), drop_cons s i hil, Cr.okB_cons]
      by_cases h0 : s.get! i = 0
      · rw [if_pos ((bt_eq s i hil 0 0 rfl).2 h0), if_pos h0]
      · rw [if_neg (fun h => h0 ((bt_eq s i hil 0 0 rfl).1 h)), if_neg h0, bt_get s i hil, rmore _ _ (by omega)]
        simp only [Option.bind_some]
        unfold moreI
        cases hm : Cr.more (s.get! i) with
        | none =>
          simp only
          rw [if_pos (by decide), crierref5_Text.j1, if_pos rfl]
        | some v =>
          obtain ⟨n, lo, hi2⟩ := v
          have hn3 : n ≤ 3 := by
            unfold Cr.more at hm
            repeat' (split at hm)
            all_goals first | (cases hm; done) | (simp only [Option.some.injEq, Prod.mk.injEq] at hm; omega)
          have e : wrap64 ((i : Int) + (n : Int)) = ((i + n : Nat) : Int) := by unfold wrap64; omega
          simp only
          rw [if_neg (by omega), e, crierref5_Text.j1]
          have hlen : ((Cr.bl s).drop (i + 1)).length = s.size - (i + 1) := by rw [List.length_drop, Cr.bl_len]
          by_cases hge : ((i + n : Nat) : Int) ≥ (s.size : Int)
          · rw [decide_eq_true hge, if_pos rfl, conts_len' n lo hi2 _ (by rw [hlen]; omega)]
            rfl
          · rw [decide_eq_false hge, if_neg (by decide)]
            have := rText_l1 s hs i n (by omega) hn3 (C := 10 + 10 * d + 1) (R := Cr.okB ((Cr.bl s).drop (i + n + 1))) (fun k hk => ih (i + n + 1) k (by omega) (by omega) (by omega)) n 1 k lo hi2 (by omega) (by omega) (by omega) (by omega)
            rw [show ((1 : Nat) : Int) = 1 from rfl, show n + 1 - 1 = n by omega] at this
            rw [this, List.drop_drop]
            rw [show i + 1 + n = i + n + 1 by omega]
    · rw [show k + 2 = (k + 1) + 1 from rfl, crierref5_Text.l0, if_neg (by omega), List.drop_eq_nil_of_le (by rw [Cr.bl_len]; omega), Cr.okB_nil]
theorem rText (s : ByteArray) (hs : s.size ≤ 1000000) (k : Nat) (hk : 10 + 10 * s.size < k) : crierref5_Text.f k s = some (Cr.isText (Cr.bl s)) := by
  unfold crierref5_Text.f Cr.isText
  rw [Cr.bl_len]
  by_cases h : (s.size : Int) > 65535
  · rw [if_pos h, decide_eq_false (by omega)]; rfl
  · have := rText_l s hs s.size 0 k (by omega) (by omega) hk
    rw [List.drop_zero] at this
    rw [if_neg h, decide_eq_true (by omega), Bool.true_and]
    exact this

/-! filters and topics -/
theorem rCF_l (l : List ByteArray) (hl : l.length ≤ 1000000) (hs : ∀ x ∈ l, x.size ≤ 100000) : ∀ (d i k : Nat), l.length - i = d → i ≤ l.length → 100001 + d < k → crierref5_CheckFilter.l0 k l (i : Int) = some (if Cr.okF (LL (l.drop i)) = true then 0 else 52) := by
  intro d
  induction d with
  | zero =>
    intro i k hd hi hk
    obtain ⟨k, rfl⟩ : ∃ m, k = m + 1 := ⟨k - 1, by omega⟩
    rw [crierref5_CheckFilter.l0, if_neg (by omega), List.drop_eq_nil_of_le (by omega)]; rfl
  | succ d ih =>
    intro i k hd hi hk
    obtain ⟨k, rfl⟩ : ∃ m, k = m + 1 := ⟨k - 1, by omega⟩
    have hil : i < l.length := by omega
    obtain ⟨x, hx⟩ : ∃ x, l[i] = x := ⟨_, rfl⟩
    have hxs : x.size ≤ 100000 := by rw [← hx]; exact hs _ (List.getElem_mem hil)
    have hdr := List.drop_eq_getElem_cons hil
    rw [hx] at hdr
    have hLL : LL (l.drop i) = Cr.bl x :: LL (l.drop (i + 1)) := by rw [hdr]; rfl
    have hemp : (LL (l.drop (i + 1))).isEmpty = decide (¬ i + 1 < l.length) := by
      rw [Bool.eq_iff_iff, decide_eq_true_eq, List.isEmpty_iff]
      constructor
      · intro h
        have := congrArg List.length h
        rw [LL_len] at this
        simp at this; omega
      · intro h
        rw [List.drop_eq_nil_of_le (by omega)]; rfl
    rw [crierref5_CheckFilter.l0, if_pos (by omega), if_pos (by omega), rd_at l i hil, hx, rsign x (by omega) k (by omega)]
    simp only [Option.bind_some]
    rw [wrap_n (n := 1000000) (by omega) (by omega), ih (i + 1) k (by omega) (by omega) (by omega), hLL, Cr.okF, hemp, tl]
    have hlen : (Cr.bl x).length = x.size := Cr.bl_len x
    have hH : ∀ p q : Option Int, (if Cr.bl x = ([35] : List UInt8) then p else q) = if Cr.bl x = Cr.H then p else q := fun p q => rfl
    rw [hH, hlen]
    cases hw : Cr.wildIn (Cr.bl x) with
    | true =>
      by_cases h1 : (x.size : Int) > 1
      · rw [if_pos rfl, if_pos h1, decide_eq_false (by omega)]; rfl
      · rw [if_pos rfl, if_neg h1, decide_eq_true (show x.size ≤ 1 by omega)]
        by_cases h2 : Cr.bl x = Cr.H
        · rw [if_pos h2, h2]
          by_cases h3 : i + 1 < l.length
          · rw [if_pos (by omega), decide_eq_false (by omega)]; rfl
          · rw [if_neg (by omega), decide_eq_true (by omega)]; rfl
        · rw [if_neg h2, show (Cr.bl x == Cr.H) = false from beq_eq_false_iff_ne.2 h2]; rfl
    | false =>
      have h2 : ¬ Cr.bl x = Cr.H := by intro h; rw [h] at hw; simp [Cr.wildIn] at hw
      rw [if_neg (by simp), if_neg h2, show (Cr.bl x == Cr.H) = false from beq_eq_false_iff_ne.2 h2]; rfl
theorem rCF (s : ByteArray) (hs : s.size ≤ 1000000) (k : Nat) (hk : 20000000 < k) : ∃ c, crierref5_CheckFilter.f k s = some c ∧ (c = 0 ↔ Cr.isFilter (Cr.bl s) = true) := by
  unfold crierref5_CheckFilter.f Cr.isFilter
  have hlen : (Cr.bl s).length = s.size := Cr.bl_len s
  by_cases h0 : (s.size : Int) = 0
  · rw [if_pos h0]
    refine ⟨50, rfl, ?_⟩
    have : Cr.bl s = [] := List.length_eq_zero_iff.1 (by omega)
    rw [this]; decide
  · rw [if_neg h0, rText s hs k (by omega)]
    simp only [Option.bind_some]
    have hne : (Cr.bl s).isEmpty = false := by
      rw [Bool.eq_false_iff]
      intro h
      have := List.isEmpty_iff.1 h
      rw [this] at hlen; simp at hlen; omega
    rw [hne]
    cases ht : Cr.isText (Cr.bl s) with
    | false => rw [if_neg (by simp)]; exact ⟨51, rfl, by simp⟩
    | true =>
      have hsz : s.size ≤ 65535 := by
        simp only [Cr.isText, Bool.and_eq_true, decide_eq_true_eq] at ht
        omega
      have h1 := levelsB_len s
      rw [if_pos rfl, rLevels s hs k (by omega)]
      simp only [Option.bind_some]
      have := rCF_l (levelsB s) (by omega) (fun x hx => by have := levelsB_size hx; omega) (levelsB s).length 0 k (by omega) (by omega) (by omega)
      rw [show ((0 : Nat) : Int) = 0 from rfl, List.drop_zero, LL_levelsB] at this
      rw [this]
      refine ⟨_, rfl, ?_⟩
      cases Cr.okF (Cr.levels (Cr.bl s)) <;> simp
theorem rCheck (s : ByteArray) (hs : s.size ≤ 1000000) (k : Nat) (hk : 20000000 < k) : ∃ c, crierref5_Check.f k s = some c ∧ (c = 0 ↔ Cr.isTopic (Cr.bl s) = true) := by
  unfold crierref5_Check.f Cr.isTopic
  have hlen : (Cr.bl s).length = s.size := Cr.bl_len s
  by_cases h0 : (s.size : Int) = 0
  · rw [if_pos h0]
    refine ⟨50, rfl, ?_⟩
    have : Cr.bl s = [] := List.length_eq_zero_iff.1 (by omega)
    rw [this]; decide
  · rw [if_neg h0, rText s hs k (by omega)]
    simp only [Option.bind_some]
    have hne : (Cr.bl s).isEmpty = false := by
      rw [Bool.eq_false_iff]
      intro h
      have := List.isEmpty_iff.1 h
      rw [this] at hlen; simp at hlen; omega
    rw [hne]
    cases ht : Cr.isText (Cr.bl s) with
    | false => rw [if_neg (by simp)]; exact ⟨51, rfl, by simp⟩
    | true =>
      rw [if_pos rfl, rsign s hs k (by omega)]
      simp only [Option.bind_some]
      cases Cr.wildIn (Cr.bl s) with
      | false => rw [if_neg (by simp)]; exact ⟨0, rfl, by simp⟩
      | true => rw [if_pos rfl]; exact ⟨52, rfl, by simp⟩
end Go.Proofs.YtndhkgfeknkfdaaGreatDoor.Giv
