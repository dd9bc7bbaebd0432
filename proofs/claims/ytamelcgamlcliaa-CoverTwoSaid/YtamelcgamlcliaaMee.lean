/- What the printed Meet computes: Cr.meet. -/
import Derived.Test.YtamelcgamlcliaaMCoverTopicsx
import Derived.Test.YtamelcgamlcliaaOuP
namespace Go.Proofs.Ytamelcgamlcliaa.Giv
open Go.RowKit Go.Proofs.YtamelcgamlcliaaW.PrintWords Go.Proofs.YtamelcgamlcliaaW.PrintLast Go.Proofs.YtamelcgamlcliaaW.PrintMore Go.Proofs.Ytamelcgamlcliaa.MCoverTopics
set_option linter.unusedVariables false
set_option linter.unusedSimpArgs false

theorem j6_f (f g : ByteArray) (a b : List ByteArray) (o : List ByteArray) (ha : 0 < a.length) (hb : 0 < b.length) (hf : f.size ≤ 65536) (hg : g.size ≤ 65536) (hw : wt (LL o) ≤ 4000000000) (k : Nat) (hk : 70000 < k) :
  cover_Meet.j6 (k + 1) f g a b o = some (ans (Cr.told (LL o) (Cr.sg (Cr.fst (LL a)) && Cr.sg (Cr.fst (LL b))) [Cr.bl f, Cr.bl g])) := by
 have tg : ∀ free : Bool, ∃ s ok, cover_told.f k o free [f, g] = some (s, ok) ∧ Cr.told (LL o) free [Cr.bl f, Cr.bl g] = if ok = true then some (Cr.bl s) else none := by
  intro free
  have h1 := wt_len (LL o)
  have h2 := wt_join (LL o)
  rw [LL_len] at h1
  have hh : ∀ x ∈ [f, g], x.size ≤ 65536 := by intro x hx; simp at hx; rcases hx with rfl | rfl <;> assumption
  exact told_f o [f, g] free (fun x hx => Nat.le_trans (hh x hx) (by unfold big; omega)) (by unfold big; simp) 65536 hh (by unfold big; omega) (by unfold big; omega) k (by simp; omega)
 cases a with
 | nil => simp at ha
 | cons x a =>
 cases b with
 | nil => simp at hb
 | cons y b =>
 rw [cover_Meet.j6]
 rw [if_pos (by simp), if_pos (by simp), rd0, rd0, sign_f, sign_f]
 simp only [Option.bind_some]
 show _ = some (ans (Cr.told (LL o) (Cr.sg (Cr.bl x) && Cr.sg (Cr.bl y)) [Cr.bl f, Cr.bl g]))
 cases hs : Cr.sg (Cr.bl x) with
 | true =>
  rw [if_pos rfl, Bool.true_and]
  obtain ⟨s, ok, h1, h2⟩ := tg (Cr.sg (Cr.bl y))
  rw [h1, h2]
  simp only [Option.bind_some]
  rw [answer_f]; rfl
 | false =>
  rw [if_neg (by decide), Bool.false_and]
  obtain ⟨s, ok, h1, h2⟩ := tg false
  rw [h1, h2]
  simp only [Option.bind_some]
  rw [answer_f]; rfl

/-- the walk of both filters, as the printed loop tells it -/
theorem meet_l (f g : ByteArray) (a b : List ByteArray) (ha : 0 < a.length) (hb : 0 < b.length) (hf : f.size ≤ 65536) (hg : g.size ≤ 65536) (hla : a.length ≤ 65536) (hlb : b.length ≤ 65536) :
  ∀ (n i : Nat) (own : List ByteArray) (k : Nat), i ≤ a.length → i ≤ b.length → a.length ≤ i + n → wt (LL own) + wt (LL (a.drop i)) + wt (LL (b.drop i)) ≤ 200000 → 70010 + 5 * n < k →
  cover_Meet.l0 k f g a b own (i : Int) = some (ans (match Cr.walk (LL (a.drop i)) (LL (b.drop i)) with | none => none | some o => Cr.told (LL own ++ o) (Cr.sg (Cr.fst (LL a)) && Cr.sg (Cr.fst (LL b))) [Cr.bl f, Cr.bl g])) := by
 intro n
 have hH : ∀ x : ByteArray, (x.toList == ([35] : List UInt8)) = decide (Cr.bl x = Cr.H) := by
  intro x; rw [tl]
  by_cases h : Cr.bl x = Cr.H
  ·rw [h, decide_eq_true rfl]; rfl
  ·rw [decide_eq_false h, beq_eq_false_iff_ne]; exact h
 have hP : ∀ x : ByteArray, (x.toList = ([43] : List UInt8)) ↔ Cr.bl x = Cr.P := by intro x; rw [tl]
 have hap : ∀ x y : List ByteArray, LL (x ++ y) = LL x ++ LL y := fun x y => by simp [LL]
 -- the told of all that is put behind
 have fin : ∀ (own t : List ByteArray) (k : Nat), wt (LL own) + wt (LL t) ≤ 300000 → 70000 < k → (if own.length + t.length < 8796093022208 then cover_Meet.j6 (k + 1) f g a b (own ++ t) else none) = some (ans (Cr.told (LL own ++ LL t) (Cr.sg (Cr.fst (LL a)) && Cr.sg (Cr.fst (LL b))) [Cr.bl f, Cr.bl g])) := by
  intro own t k hw hk
  have h1 := wt_len (LL own)
  have h2 := wt_len (LL t)
  rw [LL_len] at h1 h2
  rw [if_pos (by omega), j6_f f g a b (own ++ t) ha hb hf hg (by rw [hap, wt_append]; omega) k hk, hap]
 have lst : ∀ (l : List ByteArray) (k : Nat), l.length ≤ 65536 → 70000 < k → ∃ r, cover_least.f k l = some r ∧ LL r = Cr.least (LL l) := by
  intro l k hl hk
  obtain ⟨r, h1, h2, _⟩ := least_f l (by unfold big; omega) k (by omega)
  exact ⟨r, h1, h2⟩
 have step : ∀ (i : Nat) (own : List ByteArray) (k : Nat), i ≤ a.length → i ≤ b.length → wt (LL own) + wt (LL (a.drop i)) + wt (LL (b.drop i)) ≤ 200000 → 70001 < k →
   (∀ own2, i < a.length → i < b.length → wt (LL own2) + wt (LL (a.drop (i + 1))) + wt (LL (b.drop (i + 1))) ≤ 200000 → cover_Meet.l0 (k + 1) f g a b own2 (((i + 1 : Nat) : Int)) = some (ans (match Cr.walk (LL (a.drop (i + 1))) (LL (b.drop (i + 1))) with | none => none | some o => Cr.told (LL own2 ++ o) (Cr.sg (Cr.fst (LL a)) && Cr.sg (Cr.fst (LL b))) [Cr.bl f, Cr.bl g]))) →
   cover_Meet.l0 (k + 6) f g a b own (i : Int) = some (ans (match Cr.walk (LL (a.drop i)) (LL (b.drop i)) with | none => none | some o => Cr.told (LL own ++ o) (Cr.sg (Cr.fst (LL a)) && Cr.sg (Cr.fst (LL b))) [Cr.bl f, Cr.bl g])) := by
  intro i own k hia hib hw hk rec
  by_cases h1 : i < a.length
  ·have hda := List.drop_eq_getElem_cons h1
   obtain ⟨x, hx⟩ : ∃ x, a[i] = x := ⟨_, rfl⟩
   have hrx : rdOf ByteArray.empty a (i : Int) = x := by rw [rd_at a i h1, hx]
   rw [hx] at hda
   have hwa : LL (a.drop i) = Cr.bl x :: LL (a.drop (i + 1)) := by rw [hda]; rfl
   rw [show k + 6 = (k + 5) + 1 from rfl, cover_Meet.l0, if_neg (by omega)]
   rw [show k + 5 = (k + 4) + 1 from rfl, cover_Meet.j2, if_neg (by decide), if_pos (by omega), if_pos (by omega), hrx, hH]
   by_cases hxH : Cr.bl x = Cr.H
   ·rw [decide_eq_true hxH, show k + 4 = (k + 3) + 1 from rfl, cover_Meet.j3, if_pos rfl, if_pos (by omega), if_pos (by omega), Int.toNat_natCast]
    obtain ⟨r, hr1, hr2⟩ := lst (b.drop i) (k + 3) (by simp; omega) (by omega)
    rw [hr1]
    simp only [Option.bind_some]
    rw [show k + 3 = (k + 2) + 1 from rfl, fin own r (k + 2) (by rw [hr2]; have := wt_least (LL (b.drop i)); omega) (by omega), hr2, hwa]
    have : Cr.walk (Cr.bl x :: LL (a.drop (i + 1))) (LL (b.drop i)) = some (Cr.least (LL (b.drop i))) := by
     cases hb2 : LL (b.drop i) with
     | nil => rw [Cr.walk, if_pos hxH]; rfl
     | cons y t => rw [Cr.walk, if_pos hxH]
    rw [this]
   ·rw [decide_eq_false hxH, show k + 4 = (k + 3) + 1 from rfl, cover_Meet.j3, if_neg (by decide)]
    by_cases h2 : i < b.length
    ·have hdb := List.drop_eq_getElem_cons h2
     obtain ⟨y, hy⟩ : ∃ y, b[i] = y := ⟨_, rfl⟩
     have hry : rdOf ByteArray.empty b (i : Int) = y := by rw [rd_at b i h2, hy]
     rw [hy] at hdb
     have hwb : LL (b.drop i) = Cr.bl y :: LL (b.drop (i + 1)) := by rw [hdb]; rfl
     have hwwa : wt (LL (a.drop i)) = (Cr.bl x).length + 1 + wt (LL (a.drop (i + 1))) := by rw [hwa]; rfl
     have hwwb : wt (LL (b.drop i)) = (Cr.bl y).length + 1 + wt (LL (b.drop (i + 1))) := by rw [hwb]; rfl
     rw [if_pos (by omega), if_pos (by omega), hry, hH]
     by_cases hyH : Cr.bl y = Cr.H
     ·rw [decide_eq_true hyH, show k + 3 = (k + 2) + 1 from rfl, cover_Meet.j4, if_pos rfl, if_pos (by omega), if_pos (by omega), Int.toNat_natCast]
      obtain ⟨r, hr1, hr2⟩ := lst (a.drop i) (k + 2) (by simp; omega) (by omega)
      rw [hr1]
      simp only [Option.bind_some]
      rw [show k + 2 = (k + 1) + 1 from rfl, fin own r (k + 1) (by rw [hr2]; have := wt_least (LL (a.drop i)); omega) (by omega), hr2, hwa, hwb, Cr.walk, if_neg hxH, if_pos hyH]
     ·rw [decide_eq_false hyH, show k + 3 = (k + 2) + 1 from rfl, cover_Meet.j4, if_neg (by decide), if_neg (by omega)]
      rw [show ((i : Int) == (b.length : Int)) = false from beq_eq_false_iff_ne.2 (by omega)]
      rw [show k + 2 = (k + 1) + 1 from rfl, cover_Meet.j5, if_neg (by decide), if_pos (by omega), if_pos (by omega), hrx]
      have hwr : wrap64 ((i : Int) + 1) = ((i + 1 : Nat) : Int) := by rw [wrap_in (by omega) (by omega)]; rfl
      rw [hwr, hwa, hwb]
      clear hwr
      have cap : ∀ l : List ByteArray, wt (LL l) ≤ 300000 → l.length ≤ 300000 := by
       intro l hl
       have := wt_len (LL l)
       rw [LL_len] at this; omega
      have one : ∀ z : ByteArray, wt (LL (own ++ [z])) = wt (LL own) + ((Cr.bl z).length + 1) := by intro z; simp [LL, wt_append, wt]
      have olen := cap own (by omega)
      by_cases hxP : Cr.bl x = Cr.P
      ·rw [if_pos ((hP x).2 hxP), if_pos (Int.ofNat_le.2 (Nat.le_succ i)), if_pos (Int.ofNat_le.2 h2)]
       simp only [Int.toNat_natCast]
       have hcut : (b.take (i + 1)).drop i = [y] := by
        rw [List.drop_take, hdb]
        simp
       rw [hcut]
       obtain ⟨r, hr1, hr2⟩ := lst [y] (k + 1) (by simp) (by omega)
       rw [hr1]
       simp only [Option.bind_some]
       have hr3 : LL r = [Cr.lv (Cr.bl y)] := by
        rw [hr2]
        show Cr.least [Cr.bl y] = _
        rw [Cr.least, if_neg hyH]; rfl
       have hlv : (Cr.lv (Cr.bl y)).length ≤ (Cr.bl y).length := by unfold Cr.lv; split <;> simp
       have hwr2 : wt (LL r) ≤ (Cr.bl y).length + 1 := by rw [hr3]; show (Cr.lv (Cr.bl y)).length + 1 + 0 ≤ _; omega
       have hrl : r.length = 1 := by rw [← LL_len, hr3]; rfl
       rw [if_pos (by omega), rec (own ++ r) h1 h2 (by rw [hap, wt_append]; omega), Cr.walk, if_neg hxH, if_neg hyH, if_pos hxP, hap, hr3]
       cases Cr.walk (LL (a.drop (i + 1))) (LL (b.drop (i + 1))) with
       | none => rfl
       | some o => simp
      ·rw [if_neg (fun h => hxP ((hP x).1 h)), if_pos (Int.ofNat_lt.2 h2), hry]
       by_cases hyP : Cr.bl y = Cr.P
       ·rw [if_pos ((hP y).2 hyP), if_pos (by omega), rec (own ++ [x]) h1 h2 (by rw [one]; omega), Cr.walk, if_neg hxH, if_neg hyH, if_neg hxP, if_pos (.inl hyP), hap]
        cases Cr.walk (LL (a.drop (i + 1))) (LL (b.drop (i + 1))) with
        | none => rfl
        | some o => simp [LL]
       ·rw [if_neg (fun h => hyP ((hP y).1 h)), tl, tl]
        by_cases hxy : Cr.bl x = Cr.bl y
        ·rw [if_pos hxy, if_pos (by omega), rec (own ++ [x]) h1 h2 (by rw [one]; omega), Cr.walk, if_neg hxH, if_neg hyH, if_neg hxP, if_pos (.inr hxy), hap]
         cases Cr.walk (LL (a.drop (i + 1))) (LL (b.drop (i + 1))) with
         | none => rfl
         | some o => simp [LL]
        ·rw [if_neg hxy, Cr.walk, if_neg hxH, if_neg hyH, if_neg hxP, if_neg (by rintro (h | h); exact hyP h; exact hxy h)]
         rfl
    ·have hbn : LL (b.drop i) = [] := by rw [List.drop_eq_nil_of_le (by omega)]; rfl
     rw [if_neg (by omega), show k + 3 = (k + 2) + 1 from rfl, cover_Meet.j4, if_neg (by decide), if_neg (by omega)]
     rw [show ((i : Int) == (b.length : Int)) = true from beq_iff_eq.2 (by omega)]
     rw [show k + 2 = (k + 1) + 1 from rfl, cover_Meet.j5, if_pos rfl, hwa, hbn, Cr.walk, if_neg hxH]
     rfl
  ·have han : LL (a.drop i) = [] := by rw [List.drop_eq_nil_of_le (by omega)]; rfl
   rw [show k + 6 = (k + 5) + 1 from rfl, cover_Meet.l0, if_pos (by omega), han]
   by_cases h2 : i < b.length
   ·have hdb := List.drop_eq_getElem_cons h2
    obtain ⟨y, hy⟩ : ∃ y, b[i] = y := ⟨_, rfl⟩
    have hry : rdOf ByteArray.empty b (i : Int) = y := by rw [rd_at b i h2, hy]
    rw [hy] at hdb
    have hwb : LL (b.drop i) = Cr.bl y :: LL (b.drop (i + 1)) := by rw [hdb]; rfl
    rw [show ((i : Int) == (b.length : Int)) = false from beq_eq_false_iff_ne.2 (by omega)]
    rw [show k + 5 = (k + 4) + 1 from rfl, cover_Meet.j2, if_neg (by decide), if_neg (by omega)]
    rw [show k + 4 = (k + 3) + 1 from rfl, cover_Meet.j3, if_neg (by decide), if_pos (by omega), if_pos (by omega), hry, hH]
    by_cases hyH : Cr.bl y = Cr.H
    ·rw [decide_eq_true hyH, show k + 3 = (k + 2) + 1 from rfl, cover_Meet.j4, if_pos rfl, if_pos (by omega), if_pos (by omega), Int.toNat_natCast]
     obtain ⟨r, hr1, hr2⟩ := lst (a.drop i) (k + 2) (by simp; omega) (by omega)
     rw [hr1]
     simp only [Option.bind_some]
     rw [show k + 2 = (k + 1) + 1 from rfl, fin own r (k + 1) (by rw [hr2]; have := wt_least (LL (a.drop i)); omega) (by omega), hr2, han, hwb, Cr.walk, if_pos hyH]
     rfl
    ·rw [decide_eq_false hyH, show k + 3 = (k + 2) + 1 from rfl, cover_Meet.j4, if_neg (by decide), if_pos (by omega)]
     rw [show k + 2 = (k + 1) + 1 from rfl, cover_Meet.j5, if_pos rfl, hwb, Cr.walk, if_neg hyH]
     rfl
   ·have hbn : LL (b.drop i) = [] := by rw [List.drop_eq_nil_of_le (by omega)]; rfl
    rw [show ((i : Int) == (b.length : Int)) = true from beq_iff_eq.2 (by omega)]
    rw [show k + 5 = (k + 4) + 1 from rfl, cover_Meet.j2, if_pos rfl, hbn, Cr.walk]
    rw [show k + 4 = (k + 3) + 1 from rfl, j6_f f g a b own ha hb hf hg (by omega) (k + 3) (by omega)]
    simp
 induction n with
 | zero =>
  intro i own k hia hib hn hw hk
  obtain ⟨k, rfl⟩ : ∃ j, k = j + 6 := ⟨k - 6, by omega⟩
  exact step i own k hia hib hw (by omega) (fun own2 h1 => by omega)
 | succ n ih =>
  intro i own k hia hib hn hw hk
  obtain ⟨k, rfl⟩ : ∃ j, k = j + 6 := ⟨k - 6, by omega⟩
  exact step i own k hia hib hw (by omega) (fun own2 h1 h2 hw2 => ih (i + 1) own2 (k + 1) (by omega) (by omega) (by omega) hw2 (by omega))

theorem plain_size {s : ByteArray} (h : Cr.plain (Cr.bl s) = true) : s.size ≤ 65535 := by
 have := (Cr.filter_parts (Cr.plain_filter h)).2.2.2
 rw [Cr.bl_len] at this; exact this
theorem levelsB_pos (s : ByteArray) : 0 < (levelsB s).length := by
 rcases Nat.eq_zero_or_pos (levelsB s).length with h | h
 ·exfalso
  have h1 := LL_levelsB s
  rw [List.length_eq_zero_iff.1 h] at h1
  exact Cr.levels_ne _ h1.symm
 ·exact h
theorem fst_rd {l : List ByteArray} (h : 0 < l.length) : Cr.bl (rdOf ByteArray.empty l 0) = Cr.fst (LL l) := by
 cases l with
 | nil => simp at h
 | cons x l => rfl
theorem meet_j0 (f g : ByteArray) (a b : List ByteArray) (ha : 0 < a.length) (hb : 0 < b.length) (hf : f.size ≤ 65536) (hg : g.size ≤ 65536) (hla : a.length ≤ 65536) (hlb : b.length ≤ 65536) (hw : wt (LL a) + wt (LL b) ≤ 200000) (k : Nat) (hk : 500000 < k) (c : Bool) :
  cover_Meet.j0 k f g a b c = some (ans (if c = true then none else match Cr.walk (LL a) (LL b) with | none => none | some o => Cr.told o (Cr.sg (Cr.fst (LL a)) && Cr.sg (Cr.fst (LL b))) [Cr.bl f, Cr.bl g])) := by
 obtain ⟨k, rfl⟩ : ∃ j, k = j + 1 := ⟨k - 1, by omega⟩
 rw [cover_Meet.j0]
 cases c with
 | true => rfl
 | false =>
  rw [if_neg (by decide), if_neg (by decide)]
  have := meet_l f g a b ha hb hf hg hla hlb a.length 0 [] k (by omega) (by omega) (by omega) (by simpa [wt, LL] using hw) (by omega)
  rw [List.drop_zero, List.drop_zero] at this
  rw [show ((0 : Nat) : Int) = 0 from rfl] at this
  rw [this]
  cases Cr.walk (LL a) (LL b) with
  | none => rfl
  | some o => rfl

/-- what the printed Meet computes -/
theorem Meet_f (a b : ByteArray) (ha : a.size ≤ 140000) (hb : b.size ≤ 140000) (k : Nat) (hk : 500000 < k) : cover_Meet.f k a b = some (ans (Cr.meet (Cr.bl a) (Cr.bl b))) := by
 unfold cover_Meet.f
 rw [cover_levels_f (show a.size ≤ big by unfold big; omega) k (by omega), cover_levels_f (show b.size ≤ big by unfold big; omega) k (by omega)]
 simp only [Option.bind_some]
 unfold Cr.meet
 by_cases pa : Cr.plain (Cr.bl a) = true
 ·by_cases pb : Cr.plain (Cr.bl b) = true
  ·rw [if_pos pa, if_pos pb]
   have sa := plain_size pa
   have sb := plain_size pb
   have la := levelsB_len a
   have lb := levelsB_len b
   have wa : wt (LL (levelsB a)) = a.size + 1 := by rw [LL_levelsB, wt_levels, Cr.bl_len]
   have wb : wt (LL (levelsB b)) = b.size + 1 := by rw [LL_levelsB, wt_levels, Cr.bl_len]
   have pa0 := levelsB_pos a
   have pb0 := levelsB_pos b
   have j := fun c => meet_j0 a b (levelsB a) (levelsB b) pa0 pb0 (by omega) (by omega) (by omega) (by omega) (by omega) k hk c
   simp only [sign_f, dollar_f, j, Option.bind_some, fst_rd pa0, fst_rd pb0]
   simp only [LL_levelsB]
   cases h1 : Cr.sg (Cr.fst (Cr.levels (Cr.bl a))) <;> cases h2 : Cr.sg (Cr.fst (Cr.levels (Cr.bl b))) <;> cases h3 : Cr.dol (Cr.fst (Cr.levels (Cr.bl b))) <;> cases h4 : Cr.dol (Cr.fst (Cr.levels (Cr.bl a))) <;> simp [pa, pb, pa0, pb0] <;> (cases Cr.walk (Cr.levels (Cr.bl a)) (Cr.levels (Cr.bl b)) <;> rfl)
  ·rw [if_pos pa, if_neg pb]
   simp only [Bool.false_eq_true, if_false, if_true]
   obtain ⟨k, rfl⟩ : ∃ j, k = j + 1 := ⟨k - 1, by omega⟩
   rw [cover_Meet.j0, if_pos rfl, if_neg (fun h => pb h.2)]; rfl
 ·rw [if_neg pa]
  simp only [Bool.false_eq_true, if_false]
  obtain ⟨k, rfl⟩ : ∃ j, k = j + 1 := ⟨k - 1, by omega⟩
  rw [cover_Meet.j0, if_pos rfl, if_neg (fun h => pa h.1)]; rfl
end Go.Proofs.Ytamelcgamlcliaa.Giv
