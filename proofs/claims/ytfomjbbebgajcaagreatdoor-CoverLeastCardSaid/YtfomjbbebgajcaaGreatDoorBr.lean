/- What the printed functions of topic and cover compute, in the plain law's words. -/
import Derived.Test.YtfomjbbebgajcaaGreatDoorMCoverLeastx
import Derived.Test.YtfomjbbebgajcaaGreatDoorUtf
namespace Go.Proofs.YtfomjbbebgajcaaGreatDoor.Giv
open Go.RowKit Go.Proofs.YtfomjbbebgajcaaGreatDoorW.PrintWords Go.Proofs.YtfomjbbebgajcaaGreatDoorW.PrintLast Go.Proofs.YtfomjbbebgajcaaGreatDoorW.PrintMore Go.Proofs.YtfomjbbebgajcaaGreatDoor.MCoverLeast
set_option linter.unusedVariables false
set_option linter.unusedSimpArgs false

abbrev big : Nat := 4294967280
theorem tl (x : ByteArray) : x.toList = Cr.bl x := Lib.toList_data x
theorem rd0 (x : ByteArray) (l : List ByteArray) : rdOf ByteArray.empty (x :: l) 0 = x := rfl
theorem rd1 (x y : ByteArray) (l : List ByteArray) : rdOf ByteArray.empty (x :: y :: l) 1 = y := rfl
theorem Levels_f {s : ByteArray} (h : s.size ≤ big) : topic_Levels.f s = some (levelsB s) := by unfold topic_Levels.f; rw [if_pos h]
def cf (s : ByteArray) : Int := if txt s = 0 then (if Cr.okF (Cr.levels (Cr.bl s)) = true then 0 else 52) else txt s
theorem CheckFilter_f {s : ByteArray} (h : s.size ≤ big) : topic_CheckFilter.f s = some (cf s) := by unfold topic_CheckFilter.f cf; rw [if_pos h]
theorem cf_ok (s : ByteArray) : cf s = 0 ↔ Cr.isFilter (Cr.bl s) = true := by
 unfold cf Cr.isFilter
 by_cases h : txt s = 0
 ·rw [if_pos h]
  have := (txt_ok s).1 h
  have h1 : (Cr.bl s).isEmpty = false := by cases hb : Cr.bl s with
   | nil => exact absurd hb this.1
   | cons a b => rfl
  by_cases h2 : Cr.okF (Cr.levels (Cr.bl s)) = true
  ·simp [h2, h1, this.2]
  ·simp [h2]
 ·rw [if_neg h]
  have := fun e => h ((txt_ok s).2 e)
  constructor
  ·intro e; exact absurd e h
  ·intro e
   simp only [Bool.and_eq_true, Bool.not_eq_true'] at e
   exact absurd ⟨fun z => by rw [z] at e; simp at e, e.1.2⟩ this
def ct (s : ByteArray) : Int := if txt s = 0 then (if Cr.wildIn (Cr.bl s) = true then 52 else 0) else txt s
theorem Check_f {s : ByteArray} (h : s.size ≤ big) : topic_Check.f s = some (ct s) := by
 unfold topic_Check.f topic_text.f ct
 simp only [Option.bind_some]
 by_cases h1 : txt s = 0
 ·rw [if_pos h1, if_pos h1]
  have : strings_ContainsAny.f s (⟨#[43, 35]⟩ : ByteArray) = some (Cr.wildIn (Cr.bl s)) := by
   unfold strings_ContainsAny.f; rw [if_pos ⟨rfl, h⟩]
  rw [this]
  simp only [Option.bind_some]
  split <;> rfl
 ·rw [if_neg h1, if_neg h1]
theorem ct_ok (s : ByteArray) : ct s = 0 ↔ Cr.isTopic (Cr.bl s) = true := by
 unfold ct Cr.isTopic
 by_cases h : txt s = 0
 ·rw [if_pos h]
  have := (txt_ok s).1 h
  have h1 : (Cr.bl s).isEmpty = false := by cases hb : Cr.bl s with
   | nil => exact absurd hb this.1
   | cons a b => rfl
  by_cases h2 : Cr.wildIn (Cr.bl s) = true
  ·simp [h2]
  ·simp [h2, h1, this.2]
 ·rw [if_neg h]
  have := fun e => h ((txt_ok s).2 e)
  constructor
  ·intro e; exact absurd e h
  ·intro e
   simp only [Bool.and_eq_true, Bool.not_eq_true'] at e
   exact absurd ⟨fun z => by rw [z] at e; simp at e, e.1.2⟩ this

abbrev LL (l : List ByteArray) : List Cr.T := l.map Cr.bl
theorem LL_levelsB (s : ByteArray) : LL (levelsB s) = Cr.levels (Cr.bl s) := levelsB_map s
theorem LL_inj {l m : List ByteArray} (h : LL l = LL m) : l = m := List.map_inj_right (fun _ _ => bl_inj) |>.1 h
def joinB (l : List ByteArray) : ByteArray := ofT (Cr.join (LL l))
theorem bl_joinB (l : List ByteArray) : Cr.bl (joinB l) = Cr.join (LL l) := rfl
theorem Join_f {l : List ByteArray} (h1 : l.length ≤ big) (h2 : (Cr.join (LL l)).length ≤ big) : strings_Join.f l (⟨#[47]⟩ : ByteArray) = some (joinB l) := by
 unfold strings_Join.f joinB
 rw [if_pos ⟨rfl, h1, by show (Cr.join (LL l)).length ≤ _; unfold big at h2; omega⟩]
theorem join_len_le {a : List ByteArray} {s : ByteArray} (h : LL a = Cr.levels (Cr.bl s)) (n : Nat) : (Cr.join ((LL a).drop n)).length ≤ s.size := by
 have : Cr.join (LL a) = Cr.bl s := by rw [h, Cr.join_levels]
 rw [← Cr.bl_len, ← this]
 generalize LL a = l
 induction l generalizing n with
 | nil => simp [Cr.join]
 | cons x r ih =>
  cases n with
  | zero => exact Nat.le_refl _
  | succ n =>
   rw [List.drop_succ_cons]
   cases r with
   | nil => simp [Cr.join]
   | cons y r => rw [Cr.join_cons x (y :: r) (by simp)]; have := ih n; simp; omega
theorem LL_len (l : List ByteArray) : (LL l).length = l.length := List.length_map _
theorem levelsB_len (s : ByteArray) : (levelsB s).length ≤ s.size + 1 := by
 have := levels_count (Cr.bl s)
 rw [← LL_levelsB, LL_len, Cr.bl_len] at this; exact this
theorem levelsB_size {s x : ByteArray} (h : x ∈ levelsB s) : x.size ≤ s.size := by
 have h1 : Cr.bl x ∈ Cr.levels (Cr.bl s) := by rw [← LL_levelsB]; exact List.mem_map_of_mem h
 have h2 : Cr.join (Cr.levels (Cr.bl s)) = Cr.bl s := Cr.join_levels _
 rw [← Cr.bl_len, ← Cr.bl_len, ← h2]
 generalize Cr.levels (Cr.bl s) = l at h1
 generalize Cr.bl x = y at h1
 induction l with
 | nil => cases h1
 | cons z r ih =>
  cases r with
  | nil => simp at h1; subst h1; simp [Cr.join]
  | cons q r =>
   rw [Cr.join_cons z (q :: r) (by simp)]
   rcases List.mem_cons.1 h1 with rfl | h1
   ·simp
   ·have := ih h1; simp; omega

theorem Shared_f {s : ByteArray} (h : s.size ≤ big) (k : Nat) (hk : 1 ≤ k) : ∃ g i, topic_Shared.f k s = some (g, i, (Cr.shared (Cr.bl s)).isSome) := by
 obtain ⟨k, rfl⟩ : ∃ m, k = m + 1 := ⟨k - 1, by omega⟩
 unfold topic_Shared.f
 rw [Levels_f h]
 simp only [Option.bind_some]
 have hL := LL_levelsB s
 have hn := levelsB_len s
 have hjl := join_len_le hL 2
 have hsz := fun x => levelsB_size (s := s) (x := x)
 generalize levelsB s = t at *
 have hS : ∀ bb, (Cr.shared (Cr.bl s)).isSome = bb → ∀ x y : ByteArray, some (x, y, bb) = some (x, y, (Cr.shared (Cr.bl s)).isSome) := fun bb e x y => by rw [e]
 have hV : (Cr.shared (Cr.bl s)).isSome = match LL t with | a :: b :: c :: r => decide (a = Cr.share ∧ Cr.isTopic b = true ∧ Cr.isFilter (Cr.join (c :: r)) = true ∧ Cr.isFilter (Cr.bl s) = true) | _ => false := by
  unfold Cr.shared
  rw [← hL]
  match LL t with
  | [] => rfl
  | [_] => rfl
  | [_, _] => rfl
  | a :: b :: c :: r =>
   simp only []
   by_cases hh : a = Cr.share ∧ Cr.isTopic b = true ∧ Cr.isFilter (Cr.join (c :: r)) = true ∧ Cr.isFilter (Cr.bl s) = true
   ·rw [if_pos hh, decide_eq_true hh]; rfl
   ·rw [if_neg hh, decide_eq_false hh]; rfl
 match t with
 | [] => rw [if_pos (by simp)]; exact ⟨_, _, by simp only [topic_Shared.j0, if_true]; exact hS false hV _ _⟩
 | [a] => rw [if_pos (by simp)]; exact ⟨_, _, by simp only [topic_Shared.j0, if_true]; exact hS false hV _ _⟩
 | [a, b] => rw [if_pos (by simp)]; exact ⟨_, _, by simp only [topic_Shared.j0, if_true]; exact hS false hV _ _⟩
 | a :: b :: c :: r =>
  simp only [LL, List.map_cons] at hV
  rw [if_neg (by simp; omega), if_pos (by simp; omega), rd0, tl]
  have e3 : ((a :: b :: c :: r).length : Int) = r.length + 3 := by simp; omega
  by_cases ha : Cr.bl a = Cr.share
  ·rw [if_pos (show Cr.bl a = [36, 115, 104, 97, 114, 101] from ha), if_pos (by rw [e3]; omega), rd1, Check_f (Nat.le_trans (hsz b (by simp)) h)]
   simp only [Option.bind_some, topic_Shared.j0]
   by_cases hb : ct b = 0
   ·rw [show (ct b != 0) = false by simpa using hb]
    have hb' := (ct_ok b).1 hb
    simp only [Bool.false_eq_true, if_false]
    rw [if_pos (by rw [e3]; omega)]
    have hdr : (a :: b :: c :: r).drop 2 = c :: r := rfl
    rw [hdr]
    have hjl2 : (Cr.join (LL (c :: r))).length ≤ s.size := hjl
    have hJ : topic_Join.f (c :: r) = some (joinB (c :: r)) := by
     unfold topic_Join.f
     rw [Join_f (by simp at hn ⊢; unfold big at *; omega) (Nat.le_trans hjl2 h)]
     rfl
    rw [hJ]
    have hjs : (joinB (c :: r)).size ≤ big := by rw [← Cr.bl_len, bl_joinB]; exact Nat.le_trans hjl2 h
    simp only [Option.bind_some]
    rw [CheckFilter_f hjs]
    simp only [Option.bind_some]
    by_cases hc : cf (joinB (c :: r)) = 0
    ·rw [if_pos hc, CheckFilter_f h]
     have hc' := (cf_ok _).1 hc
     rw [bl_joinB] at hc'
     simp only [Option.bind_some]
     by_cases hd : cf s = 0
     ·have hd' := (cf_ok _).1 hd
      rw [if_pos hd, if_pos (by rw [e3]; omega)]
      exact ⟨_, _, hS true (hV.trans (decide_eq_true ⟨ha, hb', hc', hd'⟩)) _ _⟩
     ·rw [if_neg hd]
      exact ⟨_, _, hS false (hV.trans (decide_eq_false (by rintro ⟨_, _, _, e⟩; exact hd ((cf_ok _).2 e)))) _ _⟩
    ·rw [if_neg hc]
     exact ⟨_, _, hS false (hV.trans (decide_eq_false (by rintro ⟨_, _, e, _⟩; exact hc ((cf_ok _).2 (by rw [bl_joinB]; exact e))))) _ _⟩
   ·rw [show (ct b != 0) = true by simpa using hb]
    simp only [if_true]
    exact ⟨_, _, hS false (hV.trans (decide_eq_false (by rintro ⟨_, e, _⟩; exact hb ((ct_ok _).2 e)))) _ _⟩
  ·rw [if_neg (show ¬ Cr.bl a = [36, 115, 104, 97, 114, 101] from ha)]
   simp only [topic_Shared.j0, if_true]
   exact ⟨_, _, hS false (hV.trans (decide_eq_false (by rintro ⟨e, _⟩; exact ha e))) _ _⟩

theorem cover_levels_f {s : ByteArray} (h : s.size ≤ big) (k : Nat) (hk : 1 ≤ k) : cover_levels.f k s = some (if Cr.plain (Cr.bl s) = true then (levelsB s, true) else ([], false)) := by
 obtain ⟨g, i, hs⟩ := Shared_f h k hk
 unfold cover_levels.f
 rw [hs]
 simp only [Option.bind_some]
 unfold Cr.plain
 cases hsh : Cr.shared (Cr.bl s) with
 | some p => simp
 | none =>
  simp only [Option.isSome_none, Bool.false_eq_true, if_false, Option.isNone_none, Bool.and_true]
  rw [CheckFilter_f h]
  simp only [Option.bind_some]
  by_cases hc : cf s = 0
  ·rw [if_pos hc, Levels_f h, if_pos ((cf_ok s).1 hc)]; rfl
  ·rw [if_neg hc, if_neg (fun e => hc ((cf_ok s).2 e))]
theorem goes_f : ∀ (l m : List ByteArray) (k : Nat), l.length < k → topic_goes.f k l m = some (Cr.goes (LL l) (LL m))
 | [], m, k, hk => by
  obtain ⟨k, rfl⟩ : ∃ j, k = j + 1 := ⟨k - 1, by omega⟩
  simp only [topic_goes.f, List.length_nil]
  rw [if_pos (by simp)]
  cases m with
  | nil => simp [Cr.goes]
  | cons a b => simp [Cr.goes]; omega
 | x :: l, m, k, hk => by
  obtain ⟨k, rfl⟩ : ∃ j, k = j + 1 := ⟨k - 1, by omega⟩
  simp only [topic_goes.f]
  rw [if_neg (by simp; omega), if_pos (by simp), rd0, tl]
  by_cases hx : Cr.bl x = Cr.H
  ·rw [if_pos (show Cr.bl x = [35] from hx)]
   simp only [LL, List.map_cons, hx]; rw [Cr.goes_hash]
  ·rw [if_neg (show ¬ Cr.bl x = [35] from hx)]
   cases m with
   | nil => rw [if_pos (by simp)]; simp only [LL, List.map_cons, List.map_nil]; rw [Cr.goes_nil _ _ hx]
   | cons y m =>
    rw [if_neg (by simp; omega)]
    simp only [LL, List.map_cons]
    rw [Cr.goes_cons _ _ _ _ hx]
    have ih := goes_f l m k (by simp at hk; omega)
    by_cases hp : Cr.bl x = Cr.P
    ·rw [if_pos (show Cr.bl x = [43] from hp), if_pos (by simp; omega), if_pos (by simp; omega)]
     simp only [List.drop_succ_cons, List.drop_zero]
     rw [ih]; simp [hp]
    ·rw [if_neg (show ¬ Cr.bl x = [43] from hp), if_pos (by simp), rd0, tl]
     by_cases hxy : Cr.bl x = Cr.bl y
     ·rw [if_pos hxy, if_pos (by simp; omega), if_pos (by simp; omega)]
      simp only [List.drop_succ_cons, List.drop_zero]
      rw [ih]; simp [hxy]
     ·rw [if_neg hxy]; simp [hp, hxy]

theorem wrap_in {i : Int} (h0 : 0 ≤ i) (h : i ≤ 9223372036854775806) : wrap64 (i + 1) = i + 1 := by unfold wrap64; omega
theorem rd_at (l : List ByteArray) (i : Nat) (h : i < l.length) : rdOf ByteArray.empty l (i : Int) = l[i] := by simp [rdOf, List.getD, h]

theorem least_l (l : List ByteArray) (hl : l.length ≤ big) : ∀ (k : Nat) (acc : List ByteArray) (i : Nat), i ≤ l.length → acc.length ≤ i → l.length < i + k →
  ∃ r, cover_least.l0 k acc l (l.length : Int) (i : Int) = some r ∧ LL r = LL acc ++ Cr.least (LL (l.drop i)) ∧ r.length ≤ l.length
 | 0, acc, i, h1, h2, h3 => by omega
 | k + 1, acc, i, h1, h2, h3 => by
  simp only [cover_least.l0]
  by_cases h : i < l.length
  ·rw [if_pos (by omega), if_pos (by omega), if_pos (by omega), rd_at l i h, tl]
   rw [List.drop_eq_getElem_cons h]
   simp only [LL, List.map_cons, Cr.least]
   by_cases hh : Cr.bl l[i] = Cr.H
   ·rw [if_pos (show Cr.bl l[i] = [35] from hh), if_pos hh]
    exact ⟨acc, rfl, by simp, by omega⟩
   ·rw [if_neg (show ¬ Cr.bl l[i] = [35] from hh), if_neg hh]
    rw [show wrap64 ((i : Int) + 1) = ((i + 1 : Nat) : Int) by rw [wrap_in (by omega) (by unfold big at hl; omega)]; simp]
    by_cases hp : Cr.bl l[i] = Cr.P
    ·rw [if_pos (show Cr.bl l[i] = [43] from hp), if_pos (by unfold big at hl; omega)]
     obtain ⟨r, hr, e, hn⟩ := least_l l hl k (acc ++ [(⟨#[]⟩ : ByteArray)]) (i + 1) h (by simp; omega) (by omega)
     refine ⟨r, hr, e.trans ?_, hn⟩
     simp [Cr.lv, hp]
    ·rw [if_neg (show ¬ Cr.bl l[i] = [43] from hp), if_pos (by unfold big at hl; omega)]
     obtain ⟨r, hr, e, hn⟩ := least_l l hl k (acc ++ [l[i]]) (i + 1) h (by simp; omega) (by omega)
     refine ⟨r, hr, e.trans ?_, hn⟩
     rw [Cr.lv_ne hp]
     simp
  ·rw [if_neg (by omega)]
   obtain rfl : i = l.length := by omega
   exact ⟨acc, rfl, by simp [Cr.least], h2⟩
theorem least_f (l : List ByteArray) (hl : l.length ≤ big) (k : Nat) (hk : l.length < k) : ∃ r, cover_least.f k l = some r ∧ LL r = Cr.least (LL l) ∧ r.length ≤ l.length := by
 obtain ⟨r, h1, h2, h3⟩ := least_l l hl k [] 0 (Nat.zero_le _) (Nat.le_refl _) (by omega)
 exact ⟨r, h1, by rw [h2]; simp, h3⟩
theorem bt0 (s : ByteArray) (h : 0 < s.size) : bt s 0 = 36 ↔ (Cr.bl s).head? = some 36 := by
 have hg : bt s 0 = ((s.get! 0).toNat : Int) := by
  unfold bt
  have h' : (0 : Int).toNat < s.size := h
  rw [dif_pos h']
  have := get_at s 0 h
  rw [Nat.add_zero] at this
  rw [this]; rfl
 have hh := drop_cons s 0 h
 rw [List.drop_zero] at hh
 rw [hg, hh]
 simp only [List.head?_cons, Option.some.injEq]
 constructor
 ·intro e; exact UInt8.toNat_inj.1 (show (s.get! 0).toNat = 36 by omega)
 ·intro e; rw [e]; rfl

theorem Match_j1 (b : ByteArray) (t : List ByteArray) (x : Bool) (hb : b.size ≤ big) (k : Nat) (hk : t.length + 1 < k) : topic_Match.j1 k b t x = some (!x && Cr.goes (LL t) (Cr.levels (Cr.bl b))) := by
 obtain ⟨k, rfl⟩ : ∃ j, k = j + 1 := ⟨k - 1, by omega⟩
 simp only [topic_Match.j1]
 cases x
 ·rw [Levels_f hb]
  simp only [Bool.false_eq_true, if_false, Option.bind_some]
  rw [goes_f t _ k (by omega), LL_levelsB]; simp
 ·simp
theorem Match_f (a b : ByteArray) (ha : a.size ≤ big) (hb : b.size ≤ big) (k : Nat) (hk : a.size + 10 < k) : topic_Match.f k a b = some (Cr.mt (Cr.bl a) (Cr.bl b)) := by
 obtain ⟨g, i, hs⟩ := Shared_f ha k (by omega)
 unfold topic_Match.f
 rw [hs]
 simp only [Option.bind_some]
 obtain ⟨k, rfl⟩ : ∃ j, k = j + 1 := ⟨k - 1, by omega⟩
 unfold Cr.mt Cr.plain
 cases hsh : Cr.shared (Cr.bl a) with
 | some p => simp [topic_Match.j0]
 | none =>
  simp only [Option.isSome_none, Bool.false_eq_true, if_false, Option.isNone_none, Bool.and_true]
  rw [CheckFilter_f ha]
  simp only [Option.bind_some]
  by_cases hc : cf a = 0
  ·rw [if_pos hc, Check_f hb, (cf_ok a).1 hc]
   simp only [Option.bind_some, topic_Match.j0]
   by_cases hd : ct b = 0
   ·have hT := (ct_ok b).1 hd
    rw [show (ct b != 0) = false by simpa using hd, hT]
    simp only [Bool.false_eq_true, if_false, Bool.true_and]
    have hpos : 0 < b.size := by
     rw [← Cr.bl_len]
     cases hbb : Cr.bl b with
     | nil => rw [hbb] at hT; simp [Cr.isTopic] at hT
     | cons x y => simp
    rw [Levels_f ha]
    simp only [Option.bind_some]
    rw [if_pos (by omega)]
    have hn := levelsB_len a
    have hne := Cr.levels_ne (Cr.bl a)
    rw [← LL_levelsB] at hne ⊢
    generalize levelsB a = t at *
    match t, hne with
    | [], h => exact absurd rfl h
    | x :: t, _ =>
     have hfst : Cr.fst (LL (x :: t)) = Cr.bl x := rfl
     rw [hfst]
     by_cases h36 : bt b 0 = 36
     ·have hd36 := (bt0 b hpos).1 h36
      rw [if_pos h36, if_pos (by simp), rd0, tl, hd36]
      by_cases hp : Cr.bl x = Cr.P
      ·rw [if_pos (show Cr.bl x = [43] from hp), Match_j1 _ _ _ hb k (by omega)]
       simp [Cr.sg, hp]
      ·rw [if_neg (show ¬ Cr.bl x = [43] from hp), Match_j1 _ _ _ hb k (by omega)]
       have : (Cr.bl x == Cr.P) = false := by simpa using hp
       simp [Cr.sg, this]
     ·have hd36 : ((Cr.bl b).head? == some 36) = false := by
       cases hq : ((Cr.bl b).head? == some 36) with
       | false => rfl
       | true => exact absurd ((bt0 b hpos).2 (by simpa using hq)) h36
      rw [if_neg h36, Match_j1 _ _ _ hb k (by omega), hd36]
      simp
   ·have hT : Cr.isTopic (Cr.bl b) = false := by
     cases hq : Cr.isTopic (Cr.bl b) with
     | false => rfl
     | true => exact absurd ((ct_ok b).2 hq) hd
    rw [show (ct b != 0) = true by simpa using hd, hT]
    simp
  ·have hF : Cr.isFilter (Cr.bl a) = false := by
    cases hq : Cr.isFilter (Cr.bl a) with
    | false => rfl
    | true => exact absurd ((cf_ok a).2 hq) hc
   rw [if_neg hc, hF]
   simp [topic_Match.j0]

theorem told_l (free : Bool) (fs : List ByteArray) (hf : ∀ x ∈ fs, x.size ≤ big) (hfl : fs.length ≤ big) (M : Nat) (hM : ∀ x ∈ fs, x.size ≤ M) : ∀ (k i : Nat), i ≤ fs.length → fs.length + M + 20 < i + k →
  cover_told.l0 k free fs (fs.length : Int) (i : Int) = some (if free = true then ((⟨#[97]⟩ : ByteArray), true) else if (fs.drop i).all (fun f => Cr.mt (Cr.bl f) [47]) = true then ((⟨#[47]⟩ : ByteArray), true) else ((⟨#[]⟩ : ByteArray), false))
 | 0, i, h1, h2 => by omega
 | k + 1, i, h1, h2 => by
  simp only [cover_told.l0]
  by_cases h : i < fs.length
  ·rw [if_pos (by omega), if_pos (by omega), if_pos (by omega), rd_at fs i h]
   rw [show wrap64 ((i : Int) + 1) = ((i + 1 : Nat) : Int) by rw [wrap_in (by omega) (by unfold big at hfl; omega)]; simp]
   have ih := told_l free fs hf hfl M hM k (i + 1) h (by omega)
   cases free with
   | true => simp only [if_true] at ih ⊢; exact ih
   | false =>
    simp only [Bool.false_eq_true, if_false] at ih ⊢
    have hm := List.getElem_mem h
    rw [Match_f fs[i] (⟨#[47]⟩ : ByteArray) (hf _ hm) (by show 1 ≤ big; decide) k (by have := hM _ hm; omega)]
    simp only [Option.bind_some]
    rw [List.drop_eq_getElem_cons h, List.all_cons]
    cases hq : Cr.mt (Cr.bl fs[i]) [47] with
    | true => rw [if_pos rfl, ih]; simp
    | false => simp
  ·rw [if_neg (by omega)]
   obtain rfl : i = fs.length := by omega
   cases free with
   | true =>
    rw [Join_f (by decide) (by decide)]
    rfl
   | false =>
    simp only [Bool.false_eq_true, if_false]
    rw [Join_f (by decide) (by decide)]
    simp
    exact ⟨rfl, by decide⟩
theorem told_f (l fs : List ByteArray) (free : Bool) (hf : ∀ x ∈ fs, x.size ≤ big) (hfl : fs.length ≤ big) (M : Nat) (hM : ∀ x ∈ fs, x.size ≤ M) (hl : l.length ≤ big) (hj : (Cr.join (LL l)).length ≤ big) (k : Nat) (hk : fs.length + M + 30 < k) :
  ∃ s ok, cover_told.f k l free fs = some (s, ok) ∧ Cr.told (LL l) free (LL fs) = if ok = true then some (Cr.bl s) else none := by
 obtain ⟨k, rfl⟩ : ∃ j, k = j + 1 := ⟨k - 1, by omega⟩
 have special : ∀ x : Bool, (LL l = [] ∨ LL l = [[]]) → x = true → ∃ s ok, cover_told.j0 (k + 1) l free fs x = some (s, ok) ∧ Cr.told (LL l) free (LL fs) = if ok = true then some (Cr.bl s) else none := by
  intro x hs hx
  subst hx
  simp only [cover_told.j0, if_true]
  have := told_l free fs hf hfl M hM k 0 (Nat.zero_le _) (by omega)
  rw [show ((0 : Nat) : Int) = 0 from rfl] at this
  rw [this]
  unfold Cr.told
  rw [if_pos hs]
  have hall : (LL fs).all (fun f => Cr.mt f [47]) = (fs.drop 0).all (fun f => Cr.mt (Cr.bl f) [47]) := by
   rw [List.drop_zero, List.all_map]; rfl
  cases free with
  | true => exact ⟨_, _, rfl, rfl⟩
  | false =>
   simp only [Bool.false_eq_true, if_false]
   rw [hall]
   by_cases hq : (fs.drop 0).all (fun f => Cr.mt (Cr.bl f) [47]) = true
   ·rw [if_pos hq, if_pos hq]; exact ⟨_, _, rfl, rfl⟩
   ·rw [if_neg hq, if_neg hq]; exact ⟨_, _, rfl, rfl⟩
 have plainly : ∀ x : Bool, ¬ (LL l = [] ∨ LL l = [[]]) → x = false → ∃ s ok, cover_told.j0 (k + 1) l free fs x = some (s, ok) ∧ Cr.told (LL l) free (LL fs) = if ok = true then some (Cr.bl s) else none := by
  intro x hs hx
  subst hx
  simp only [cover_told.j0, Bool.false_eq_true, if_false]
  rw [Join_f hl hj]
  simp only [Option.bind_some]
  refine ⟨_, _, rfl, ?_⟩
  unfold Cr.told
  rw [if_neg hs]
  have e : ((joinB l).size : Int) = ((Cr.join (LL l)).length : Int) := by rw [← Cr.bl_len, bl_joinB]
  rw [e]
  by_cases hq : (Cr.join (LL l)).length ≤ 65535
  ·rw [if_pos hq, if_pos (by simp; omega)]; rfl
  ·rw [if_neg hq, if_neg (by simp; omega)]
 unfold cover_told.f
 match l with
 | [] =>
  rw [if_pos (by simp)]
  exact special true (.inl rfl) rfl
 | [x] =>
  rw [if_neg (by simp), if_pos (by simp), if_pos (by simp), rd0, tl]
  by_cases hx : Cr.bl x = []
  ·exact special _ (.inr (by simp [hx])) (by simpa using hx)
  ·exact plainly _ (by simp [hx]) (by simpa using hx)
 | x :: y :: r =>
  rw [if_neg (by simp; omega), if_neg (by simp; omega)]
  exact plainly false (by simp) rfl
end Go.Proofs.YtfomjbbebgajcaaGreatDoor.Giv
