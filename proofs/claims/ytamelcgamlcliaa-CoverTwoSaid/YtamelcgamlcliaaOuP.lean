/- The search for a topic outside: its steps beside the plain search. -/
import Derived.Test.YtamelcgamlcliaaObj
namespace Go.Proofs.Ytamelcgamlcliaa.Giv
open Go.RowKit Go.Proofs.YtamelcgamlcliaaW.PrintWords Go.Proofs.YtamelcgamlcliaaW.PrintLast Go.Proofs.YtamelcgamlcliaaW.PrintMore Go.Proofs.Ytamelcgamlcliaa.MCoverTopics
set_option linter.unusedVariables false
set_option linter.unusedSimpArgs false

def ans (t : Option Cr.T) : ByteArray × Bool := match t with | some s => (ofT s, true) | none => (⟨#[]⟩, false)
theorem ans_tgt (s : ByteArray) (ok : Bool) : ans (if ok = true then some (Cr.bl s) else none) = if ok = true then (s, true) else (⟨#[]⟩, false) := by
  cases ok
  · rfl
  · simp [ans, ofT_bl]
theorem answer_f (s : ByteArray) (ok : Bool) : cover_answer.f s ok = some (ans (if ok = true then some (Cr.bl s) else none)) := by
  rw [ans_tgt]; unfold cover_answer.f; cases ok <;> rfl

def wt : List Cr.T → Nat
  | [] => 0
  | x :: l => x.length + 1 + wt l
theorem wt_append : ∀ a b : List Cr.T, wt (a ++ b) = wt a + wt b
  | [], b => by simp [wt]
  | x :: a, b => by simp [wt, wt_append a b]; omega
theorem wt_len : ∀ a : List Cr.T, a.length ≤ wt a
  | [] => Nat.le_refl _
  | x :: a => by have := wt_len a; simp [wt]; omega
theorem wt_join : ∀ a : List Cr.T, (Cr.join a).length ≤ wt a
  | [] => by simp [Cr.join, wt]
  | [x] => by simp [Cr.join, wt]
  | x :: y :: r => by
    have := wt_join (y :: r)
    rw [Cr.join_cons x (y :: r) (by simp)]
    simp only [List.length_append, List.length_cons, wt] at *
    omega
theorem wt_join_eq : ∀ a : List Cr.T, a ≠ [] → wt a = (Cr.join a).length + 1
  | [], h => absurd rfl h
  | [x], _ => by simp [Cr.join, wt]
  | x :: y :: r, _ => by
    have := wt_join_eq (y :: r) (by simp)
    rw [Cr.join_cons x (y :: r) (by simp)]
    simp only [List.length_append, List.length_cons, wt] at *
    omega
theorem wt_levels (s : Cr.T) : wt (Cr.levels s) = s.length + 1 := by
  rw [wt_join_eq _ (Cr.levels_ne s), Cr.join_levels]
theorem wt_least : ∀ a : List Cr.T, wt (Cr.least a) ≤ wt a
  | [] => Nat.le_refl _
  | x :: a => by
    unfold Cr.least
    split
    · simp [wt]
    · have := wt_least a
      have h2 : (Cr.lv x).length ≤ x.length := by unfold Cr.lv; split <;> simp
      simp only [wt]; omega
theorem wt_drop (a : List ByteArray) (i : Nat) (h : i < a.length) : wt (LL (a.drop i)) = (Cr.bl a[i]).length + 1 + wt (LL (a.drop (i + 1))) := by
  rw [List.drop_eq_getElem_cons h]; rfl
theorem wt_drop_le (a : List ByteArray) (i : Nat) : wt (LL (a.drop (i + 1))) ≤ wt (LL (a.drop i)) := by
  by_cases h : i < a.length
  · rw [wt_drop a i h]; omega
  · rw [List.drop_eq_nil_of_le (by omega), List.drop_eq_nil_of_le (by omega)]; exact Nat.le_refl _

theorem told_get (l : List ByteArray) (free : Bool) (f : ByteArray) (hl : wt (LL l) ≤ 4000000000) (hf : f.size ≤ 65536) :
    ∃ s ok, cover_told.f 70000 l free [f] = some (s, ok) ∧ Cr.told (LL l) free [Cr.bl f] = if ok = true then some (Cr.bl s) else none := by
  have h1 := wt_len (LL l)
  have h2 := wt_join (LL l)
  rw [LL_len] at h1
  exact told_f l [f] free (by intro x hx; simp at hx; subst hx; unfold big; omega) (by unfold big; simp) 65536 (by intro x hx; simp at hx; subst hx; exact hf) (by unfold big; omega) (by unfold big; omega) 70000 (by simp)

theorem raB_lt {a : List ByteArray} {i : Nat} (h : i < a.length) : raB a i = a.drop i := by unfold raB; rw [if_pos h]
theorem raB_ge {a : List ByteArray} {i : Nat} (h : ¬ i < a.length) : raB a i = if a.getLast? = some (ofT Cr.H) then [ofT Cr.H] else [] := by unfold raB; rw [if_neg h]
theorem okF_drop : ∀ (l : List Cr.T) (i : Nat), Cr.okF l = true → Cr.okF (l.drop i) = true
  | l, 0, h => by simpa using h
  | [], _ + 1, h => by simpa using h
  | x :: l, i + 1, h => by simpa using okF_drop l i (Cr.okF_cons h)
theorem LL_drop (a : List ByteArray) (i : Nat) : LL (a.drop i) = (LL a).drop i := by simp [LL, List.map_drop]
theorem last_of {a : List ByteArray} {i : Nat} (h : i + 1 = a.length) : a.getLast? = some a[i] := by
  rw [List.getLast?_eq_getElem?, show a.length - 1 = i by omega, List.getElem?_eq_getElem (by omega)]
theorem raB_nxt {a : List ByteArray} (hok : Cr.okF (LL a) = true) (i : Nat) : LL (raB a (i + 1)) = Cr.nxt (LL (raB a i)) := by
  by_cases h : i < a.length
  · rw [raB_lt h, List.drop_eq_getElem_cons h]
    have hd := okF_drop _ i hok
    rw [← LL_drop, List.drop_eq_getElem_cons h] at hd
    by_cases h1 : i + 1 < a.length
    · rw [raB_lt h1]
      have : Cr.bl a[i] ≠ Cr.H := by
        intro e
        have := Cr.okF_hash hd e
        have h2 : (LL (a.drop (i + 1))).length = 0 := by
          have := congrArg List.length this
          simpa using this
        rw [LL_len, List.length_drop] at h2
        omega
      show LL (a.drop (i + 1)) = Cr.nxt (Cr.bl a[i] :: LL (a.drop (i + 1)))
      rw [Cr.nxt, if_neg this]
    · rw [raB_ge h1, last_of (i := i) (by omega)]
      show _ = Cr.nxt (Cr.bl a[i] :: LL (a.drop (i + 1)))
      rw [Cr.nxt]
      have hn : a.drop (i + 1) = [] := List.drop_eq_nil_of_le (by omega)
      by_cases e : Cr.bl a[i] = Cr.H
      · rw [if_pos e, if_pos (by rw [← e, ofT_bl])]; rfl
      · rw [if_neg e, if_neg (fun e2 => e (by rw [Option.some.inj e2, bl_ofT])), hn]
  · rw [raB_ge h, raB_ge (by omega)]
    split <;> rfl
theorem least_nxt {a : List ByteArray} (hok : Cr.okF (LL a) = true) (i : Nat) : Cr.least (Cr.nxt (LL (raB a i))) = LL (restB a (i + 1)) := by
  rw [← raB_nxt hok, LL_restB]
  by_cases h1 : i + 1 < a.length
  · rw [raB_lt h1]
  · rw [raB_ge h1, List.drop_eq_nil_of_le (by omega)]
    split <;> rfl
theorem ends_eq {a : List ByteArray} {i : Nat} (hinv : i ≤ a.length ∨ a.getLast? = some (ofT Cr.H)) :
    endsP a i = decide (0 < i ∧ (LL (raB a i) = [] ∨ LL (raB a i) = [Cr.H])) := by
  unfold endsP
  by_cases h0 : 0 < i
  · by_cases h : i < a.length
    · have hne : ¬ i = a.length := by omega
      have e : (LL (raB a i) = [] ∨ LL (raB a i) = [Cr.H]) ↔ (a.getLast? = some (ofT Cr.H) ∧ a.length ≤ i + 1) := by
        rw [raB_lt h, List.drop_eq_getElem_cons h]
        show (Cr.bl a[i] :: LL (a.drop (i + 1)) = [] ∨ Cr.bl a[i] :: LL (a.drop (i + 1)) = [Cr.H]) ↔ _
        by_cases h1 : i + 1 = a.length
        · rw [last_of h1, List.drop_eq_nil_of_le (by omega)]
          constructor
          · rintro (e | e)
            · cases e
            · simp [LL] at e; exact ⟨by rw [← e, ofT_bl], by omega⟩
          · rintro ⟨e, _⟩
            have e := Option.some.inj e
            right; rw [e]; rfl
        · constructor
          · rintro (e | e)
            · cases e
            · exfalso
              have := congrArg List.length e
              simp at this; omega
          · rintro ⟨_, _⟩; omega
      have e2 : decide (0 < i ∧ (LL (raB a i) = [] ∨ LL (raB a i) = [Cr.H])) = decide (0 < i ∧ (a.getLast? = some (ofT Cr.H) ∧ a.length ≤ i + 1)) := decide_eq_decide.2 (and_congr_right fun _ => e)
      rw [e2]
      simp [h0, hne]
    · rw [raB_ge h]
      rcases hinv with hinv | hinv
      · have he : i = a.length := by omega
        have : (LL (if a.getLast? = some (ofT Cr.H) then [ofT Cr.H] else []) = [] ∨ LL (if a.getLast? = some (ofT Cr.H) then [ofT Cr.H] else []) = [Cr.H]) := by
          split
          · right; rfl
          · left; rfl
        rw [decide_eq_true (And.intro h0 this), decide_eq_true h0, decide_eq_true he]
        rfl
      · rw [if_pos hinv]
        simp [h0, hinv, bl_ofT]
        omega
  · simp [h0]

theorem leaves_eq {f : ByteArray} {a b own : List ByteArray} {i : Nat} (hok : Cr.okF (LL a) = true) (lev : ByteArray) (free : Bool) :
    Cr.leaves (Cr.bl f) (LL own) (LL (raB a i)) (b[i]?.map Cr.bl) (Cr.bl lev) free = Cr.told (LL (leavesL own a b i lev free)) false [Cr.bl f] := by
  unfold Cr.leaves leavesL
  rw [least_nxt hok]
  have e : LL own ++ Cr.bl lev :: LL (restB a (i + 1)) = LL (own ++ [lev] ++ restB a (i + 1)) := by simp [LL]
  rw [e]
  have e1 : (LL (own ++ [lev] ++ restB a (i + 1)) = [[]]) ↔ (own ++ [lev] ++ restB a (i + 1) = [⟨#[]⟩]) :=
    ⟨fun h => LL_inj (by rw [h]; rfl), fun h => by rw [h]; rfl⟩
  have e2 : (b[i]?.map Cr.bl = some [97]) ↔ (b[i]? = some (⟨#[97]⟩ : ByteArray)) := by
    constructor
    · intro h
      obtain ⟨x, hx, hb⟩ := Option.map_eq_some_iff.1 h
      rw [hx, show x = ⟨#[97]⟩ from bl_inj hb]
    · intro h; rw [h]; rfl
  by_cases h : own ++ [lev] ++ restB a (i + 1) = [⟨#[]⟩] ∧ free = true
  · rw [if_pos ⟨e1.2 h.1, h.2⟩, if_pos h]
    by_cases h2 : b[i]? = some (⟨#[97]⟩ : ByteArray)
    · rw [if_pos (e2.2 h2), if_pos h2]; rfl
    · rw [if_neg (fun q => h2 (e2.1 q)), if_neg h2]; rfl
  · rw [if_neg (fun q => h ⟨e1.1 q.1, q.2⟩), if_neg h]

theorem at_eq {a : List ByteArray} {i : Nat} {lev : ByteArray} {free ok : Bool} (h : atP a i = (lev, free, ok)) :
    (ok = false ∧ LL (raB a i) = []) ∨ (ok = true ∧ ∃ x r, LL (raB a i) = x :: r ∧ Cr.bl lev = (if Cr.sg x = true then [] else x) ∧ free = Cr.sg x) := by
  unfold atP at h
  split at h
  · rename_i e
    simp only [Prod.mk.injEq] at h
    left; exact ⟨h.2.2.symm, by rw [e]; rfl⟩
  · rename_i x r e
    right
    rw [e]
    split at h
    · rename_i hs
      simp only [Prod.mk.injEq] at h
      exact ⟨h.2.2.symm, Cr.bl x, LL r, rfl, by rw [if_pos hs, ← h.1], by rw [hs]; exact h.2.1.symm⟩
    · rename_i hs
      simp only [Prod.mk.injEq] at h
      exact ⟨h.2.2.symm, Cr.bl x, LL r, rfl, by rw [if_neg hs, ← h.1], by rw [← h.2.1]; simpa using hs⟩
theorem lev_wt {a : List ByteArray} {i : Nat} {lev : ByteArray} {free ok : Bool} (h : atP a i = (lev, free, ok)) : (Cr.bl lev).length + 1 + wt (LL (a.drop (i + 1))) ≤ wt (LL (a.drop i)) + 1 ∧ (i < a.length → (Cr.bl lev).length + 1 + wt (LL (a.drop (i + 1))) ≤ wt (LL (a.drop i))) ∧ (¬ i < a.length → Cr.bl lev = []) := by
  by_cases hi : i < a.length
  · rw [wt_drop a i hi]
    have : (Cr.bl lev).length ≤ (Cr.bl a[i]).length := by
      unfold atP at h
      rw [raB_lt hi, List.drop_eq_getElem_cons hi] at h
      simp only [] at h
      split at h <;> (simp only [Prod.mk.injEq] at h; rw [← h.1]; first | exact Nat.le_refl _ | exact Nat.zero_le _)
    exact ⟨by omega, fun _ => by omega, fun q => absurd hi q⟩
  · have : Cr.bl lev = [] := by
      unfold atP at h
      rw [raB_ge hi] at h
      split at h
      · simp only [Prod.mk.injEq] at h; rw [← h.1]
      · rename_i x r e
        split at e
        · simp only [List.cons.injEq] at e
          obtain ⟨rfl, _⟩ := e
          rw [if_pos (by rfl)] at h
          simp only [Prod.mk.injEq] at h; rw [← h.1]
        · cases e
    rw [this, List.drop_eq_nil_of_le (by omega), List.drop_eq_nil_of_le (by omega)]
    exact ⟨by simp [wt], fun q => absurd q hi, fun _ => rfl⟩
theorem leavesL_wt {a b own : List ByteArray} {i : Nat} {lev : ByteArray} {free : Bool} {m : Nat} (h : (Cr.bl lev).length + 1 + wt (LL (a.drop (i + 1))) ≤ m) : wt (LL (leavesL own a b i lev free)) ≤ wt (LL own) + m + 2 := by
  unfold leavesL
  have h2 := wt_least (LL (a.drop (i + 1)))
  have h3 : wt (LL (own ++ [lev] ++ restB a (i + 1))) = wt (LL own) + ((Cr.bl lev).length + 1) + wt (Cr.least (LL (a.drop (i + 1)))) := by
    rw [← LL_restB]; simp [LL, wt_append, wt]; omega
  split
  · split
    · show wt [[98]] ≤ _; simp [wt]
    · show wt [[97]] ≤ _; simp [wt]
  · omega

theorem os_end {f : ByteArray} {a own : List ByteArray} {i : Nat} {s0 : Bool} {lev : ByteArray} {free ok : Bool} (h : atP a i = (lev, free, ok)) :
    Cr.osearch (Cr.bl f) s0 [] (LL (raB a i)) (LL own) = if ok = true then Cr.leaves (Cr.bl f) (LL own) (LL (raB a i)) none (Cr.bl lev) free else none := by
  rcases at_eq h with ⟨rfl, e⟩ | ⟨rfl, x, r, e, h1, h2⟩
  · rw [e]; rfl
  · rw [e, h1, h2]; rfl
theorem os_step {f : ByteArray} {a b own : List ByteArray} {i : Nat} {s0 : Bool} {lev : ByteArray} {free ok : Bool} (hok : Cr.okF (LL a) = true) (h : atP a i = (lev, free, ok)) (hi : i < b.length) :
    Cr.osearch (Cr.bl f) s0 (LL (b.drop i)) (LL (raB a i)) (LL own) = match Cr.endsHere (LL own) (LL (raB a i)) s0 (Cr.bl b[i]) with
      | some s => some s
      | none => if ok = false then none else if Cr.bl b[i] = Cr.H then none else
        if Cr.bl b[i] = Cr.P then Cr.osearch (Cr.bl f) s0 (LL (b.drop (i + 1))) (LL (raB a (i + 1))) (LL (own ++ [lev]))
        else if free = true then
          match Cr.leaves (Cr.bl f) (LL own) (LL (raB a i)) (some (Cr.bl b[i])) (Cr.other (Cr.bl b[i])) true with
          | some s => some s
          | none => if own = [] ∧ Cr.dol (Cr.bl b[i]) = true then none else Cr.osearch (Cr.bl f) s0 (LL (b.drop (i + 1))) (LL (raB a (i + 1))) (LL (own ++ [b[i]]))
        else if lev = b[i] then Cr.osearch (Cr.bl f) s0 (LL (b.drop (i + 1))) (LL (raB a (i + 1))) (LL (own ++ [lev]))
        else Cr.leaves (Cr.bl f) (LL own) (LL (raB a i)) (some (Cr.bl b[i])) (Cr.bl lev) false := by
  rw [raB_nxt hok]
  rw [List.drop_eq_getElem_cons hi]
  show Cr.osearch (Cr.bl f) s0 (Cr.bl b[i] :: LL (b.drop (i + 1))) _ _ = _
  have ho : ∀ x : ByteArray, LL (own ++ [x]) = LL own ++ [Cr.bl x] := fun x => by simp [LL]
  have hown : (LL own = []) ↔ own = [] := by simp [LL]
  rw [ho, ho]
  rcases at_eq h with ⟨rfl, e⟩ | ⟨rfl, x, r, e, h1, h2⟩
  · rw [e]
    cases hE : Cr.endsHere (LL own) [] s0 (Cr.bl b[i]) with
    | some s => rw [Cr.osearch, hE]
    | none => rw [Cr.osearch, hE]; rfl
  · rw [e]
    cases hE : Cr.endsHere (LL own) (x :: r) s0 (Cr.bl b[i]) with
    | some s => rw [Cr.osearch, hE]
    | none =>
      rw [Cr.osearch, hE]
      simp only [Bool.true_eq_false, if_false]
      rw [h1, h2]
      by_cases hH : Cr.bl b[i] = Cr.H
      · rw [if_pos hH, if_pos hH]
      · rw [if_neg hH, if_neg hH]
        by_cases hP : Cr.bl b[i] = Cr.P
        · rw [if_pos hP, if_pos hP]
        · rw [if_neg hP, if_neg hP]
          cases hs : Cr.sg x with
          | true =>
            simp only [if_true]
            cases Cr.leaves (Cr.bl f) (LL own) (x :: r) (some (Cr.bl b[i])) (Cr.other (Cr.bl b[i])) true with
            | some s => rfl
            | none =>
              simp only []
              by_cases hd : own = [] ∧ Cr.dol (Cr.bl b[i]) = true
              · rw [if_pos hd, if_pos ⟨hown.2 hd.1, hd.2⟩]
              · rw [if_neg hd, if_neg (fun q => hd ⟨hown.1 q.1, q.2⟩)]
          | false =>
            simp only [Bool.false_eq_true, if_false]
            rw [hs] at h1
            simp only [Bool.false_eq_true, if_false] at h1
            by_cases hxy : x = Cr.bl b[i]
            · rw [if_pos hxy, if_pos (bl_inj (by rw [h1, hxy]))]
            · rw [if_neg hxy, if_neg (by rintro rfl; exact hxy h1.symm)]

theorem other_f (x : ByteArray) : cover_other.f x = some (ofT (Cr.other (Cr.bl x))) := by
  unfold cover_other.f Cr.other
  rw [tl]
  split <;> rfl
theorem dollar_f (x : ByteArray) : cover_dollar.f x = some (Cr.dol (Cr.bl x)) := by
  unfold cover_dollar.f strings_HasPrefix.f stringslite_HasPrefix.f
  have hsz : (x.size : Int) = ((Cr.bl x).length : Int) := by rw [Cr.bl_len]
  have h1 : ((⟨#[36]⟩ : ByteArray).size : Int) = 1 := rfl
  rw [h1, hsz]
  cases hb : Cr.bl x with
  | nil => rfl
  | cons c r =>
    have e : (((x.extract 0 ((1 : Int)).toNat).toList == (⟨#[36]⟩ : ByteArray).toList) : Bool) = (some c == some (36 : UInt8)) := by
      rw [tl, tl, bl_extract, hb]
      show ([c] == [36]) = _
      by_cases hc : c = 36
      · subst hc; rfl
      · rw [beq_eq_false_iff_ne.2 (by simpa using hc), beq_eq_false_iff_ne.2 (by simpa using hc)]
    rw [if_pos (by simp; omega)]
    simp only [Option.bind_some]
    rw [e]
    rfl

theorem leaves_get {f : ByteArray} {a b own : List ByteArray} {i : Nat} (hok : Cr.okF (LL a) = true) (lev : ByteArray) (free : Bool) {m : Nat} (h : (Cr.bl lev).length + 1 + wt (LL (a.drop (i + 1))) ≤ m) (hm : wt (LL own) + m ≤ 1000000) (hf : f.size ≤ 65536) :
    ∃ s ok, cover_told.f 70000 (leavesL own a b i lev free) false [f] = some (s, ok) ∧ Cr.leaves (Cr.bl f) (LL own) (LL (raB a i)) (b[i]?.map Cr.bl) (Cr.bl lev) free = if ok = true then some (Cr.bl s) else none := by
  rw [leaves_eq hok]
  exact told_get _ false f (by have := leavesL_wt (own := own) (b := b) (free := free) h; omega) hf
theorem at_inv {a : List ByteArray} {i : Nat} {lev : ByteArray} {free : Bool} (h : atP a i = (lev, free, true)) : i + 1 ≤ a.length ∨ a.getLast? = some (ofT Cr.H) := by
  by_cases hi : i < a.length
  · left; omega
  · right
    rcases at_eq h with ⟨e, _⟩ | ⟨_, x, r, e, _⟩
    · cases e
    · rw [raB_ge hi] at e
      split at e
      · assumption
      · cases e
theorem next_lev {a b own : List ByteArray} {i : Nat} {lev : ByteArray} {free ok : Bool} (h : atP a i = (lev, free, ok)) (hib : i < b.length) {m : Nat} (hw : wt (LL own) + wt (LL (a.drop i)) + wt (LL (b.drop i)) ≤ m) :
    wt (LL (own ++ [lev])) + wt (LL (a.drop (i + 1))) + wt (LL (b.drop (i + 1))) ≤ m := by
  have e : wt (LL (own ++ [lev])) = wt (LL own) + ((Cr.bl lev).length + 1) := by simp [LL, wt_append, wt]
  obtain ⟨_, h2, h3⟩ := lev_wt h
  rw [wt_drop b i hib] at hw
  have h4 := wt_drop_le a i
  rw [e]
  by_cases hi : i < a.length
  · have := h2 hi; omega
  · have h5 := h3 hi
    have h6 : (Cr.bl lev).length = 0 := by rw [h5]; rfl
    omega
theorem next_y {a b own : List ByteArray} {i : Nat} (hib : i < b.length) {m : Nat} (hw : wt (LL own) + wt (LL (a.drop i)) + wt (LL (b.drop i)) ≤ m) :
    wt (LL (own ++ [b[i]])) + wt (LL (a.drop (i + 1))) + wt (LL (b.drop (i + 1))) ≤ m := by
  have e : wt (LL (own ++ [b[i]])) = wt (LL own) + ((Cr.bl b[i]).length + 1) := by simp [LL, wt_append, wt]
  rw [wt_drop b i hib] at hw
  have h4 := wt_drop_le a i
  rw [e]; omega
theorem other_len (y : Cr.T) : (Cr.other y).length ≤ 1 := by unfold Cr.other; split <;> simp
theorem ans_none : ans none = (⟨#[]⟩, false) := rfl
end Go.Proofs.Ytamelcgamlcliaa.Giv
