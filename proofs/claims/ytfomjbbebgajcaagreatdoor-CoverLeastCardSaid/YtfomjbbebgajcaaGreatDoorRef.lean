/- The document's own search for a topic (crierref6), as plain lists: Meet and Outside of the reference find a topic just when there is one. -/
import Derived.Test.YtfomjbbebgajcaaGreatDoorCr
set_option linter.unusedVariables false
namespace Cr

/-- a filter's levels without a # at the end -/
def opn (l : List T) : List T × Bool := if l.getLast? = some H then (l.dropLast, true) else (l, false)
def fill (x : List T) (more : Nat) : List T := x.map lv ++ List.replicate (more - x.length) []
def alive (l : List T) (no : T) : List T := if l = [[]] then (if no = [97] then [[98]] else [[97]]) else l
/-- is a topic of these levels f's, and not g's -/
def shw (l : List T) (f g : T) : Bool := decide (l ≠ []) && decide (1 ≤ (join l).length ∧ (join l).length ≤ 65535) && mt f (join l) && !mt g (join l)
def com (l : List T) (f g : T) : Bool := decide (l ≠ []) && decide (1 ≤ (join l).length ∧ (join l).length ≤ 65535) && mt f (join l) && mt g (join l)

/-- the levels x of a filter, open or not, take t -/
def tk (x : List T) (o : Bool) (t : List T) : Prop := x.length ≤ t.length ∧ (o = true ∨ x.length = t.length) ∧ ∀ i (h : i < x.length) (h2 : i < t.length), x[i] = P ∨ x[i] = t[i]

theorem opn_nil : opn [] = ([], false) := rfl
theorem opn_H : opn [H] = ([], true) := rfl
theorem opn_cons {x : T} {r : List T} (h : x ≠ H ∨ r ≠ []) : opn (x :: r) = (x :: (opn r).1, (opn r).2) := by
  cases r with
  | nil =>
    have h : x ≠ H := by rcases h with h | h; exact h; exact absurd rfl h
    simp [opn, h]
  | cons y r =>
    unfold opn
    rw [List.getLast?_cons_cons]
    split <;> rfl

theorem goes_tk : ∀ (L t : List T), okF L = true → (goes L t = true ↔ tk (opn L).1 (opn L).2 t)
  | [], t, _ => by
    rw [opn_nil]
    constructor
    · intro h
      have h : t = [] := by simpa [goes] using h
      subst h
      exact ⟨Nat.le_refl _, .inr rfl, fun i h => by simp at h⟩
    · rintro ⟨_, h | h, _⟩
      · simp at h
      · have h : t = [] := List.length_eq_zero_iff.1 h.symm
        subst h; rfl
  | x :: r, t, hok => by
    by_cases hx : x = H
    · have hr := okF_hash hok hx
      subst hx; subst hr
      rw [opn_H]
      refine ⟨fun _ => ⟨Nat.zero_le _, .inl rfl, fun i h => by simp at h⟩, fun _ => goes_hash _ _⟩
    · rw [opn_cons (.inl hx)]
      cases t with
      | nil =>
        rw [goes_nil x r hx]
        constructor
        · intro h; simp at h
        · rintro ⟨h, _⟩; simp at h
      | cons y t =>
        rw [goes_cons x y r t hx, Bool.and_eq_true, decide_eq_true_eq, goes_tk r t (okF_cons hok)]
        constructor
        · rintro ⟨h0, h1, h2, h3⟩
          refine ⟨by simpa using h1, by simpa using h2, fun i => ?_⟩
          cases i with
          | zero => intro _ _; exact h0
          | succ i => intro h4 h5; exact h3 i (by simpa using h4) (by simpa using h5)
        · rintro ⟨h1, h2, h3⟩
          exact ⟨h3 0 (by simp) (by simp), by simpa using h1, by simpa using h2, fun i h4 h5 => h3 (i + 1) (by simpa using h4) (by simpa using h5)⟩

theorem opn_noH : ∀ {L : List T}, okF L = true → ∀ x ∈ (opn L).1, x ≠ H
  | [], _ => by intro x hx; simp [opn_nil] at hx
  | y :: r, h => by
    by_cases hy : y = H
    · have hr := okF_hash h hy
      subst hy; subst hr
      intro x hx; simp [opn_H] at hx
    · rw [opn_cons (.inl hy)]
      intro x hx
      rcases List.mem_cons.1 hx with rfl | hx
      · exact hy
      · exact opn_noH (okF_cons h) x hx
theorem opn_mem {L : List T} : ∀ x ∈ (opn L).1, x ∈ L := by
  intro x hx
  unfold opn at hx
  split at hx
  · exact List.dropLast_subset _ hx
  · exact hx
theorem okF_mem : ∀ {L : List T}, okF L = true → ∀ x ∈ L, wildIn x = true → x.length ≤ 1
  | [], _ => by intro x hx; simp at hx
  | y :: r, h => by
    intro x hx hw
    rcases List.mem_cons.1 hx with rfl | hx
    · simp [okF, hw] at h; exact h.1.1
    · exact okF_mem (okF_cons h) x hx hw
theorem lv_good2 {x : T} (h1 : noSl x ∧ okB x = true) (h2 : wildIn x = true → x.length ≤ 1) (hH : x ≠ H) : good (lv x) := by
  by_cases hx : x = P
  · subst hx; exact good_nil
  · rw [lv_ne hx]
    refine ⟨h1.1, h1.2, ?_⟩
    cases hw : wildIn x with
    | false => rfl
    | true =>
      have hl := h2 hw
      cases x with
      | nil => simp [wildIn] at hw
      | cons c x =>
        have : x = [] := by simpa using hl
        subst this
        simp [wildIn] at hw
        rcases hw with rfl | rfl
        · exact absurd rfl hx
        · exact absurd rfl hH

/-- f as the search sees it -/
structure Fi (f : T) (x : List T) (o : Bool) : Prop where
  pl : plain f = true
  good : ∀ y ∈ x, good (lv y)
  iff : ∀ t, goes (levels f) t = true ↔ tk x o t
  ne : o = false → x ≠ [] ∧ x ≠ [[]]
  fs : x ≠ [] → fst (levels f) = fst x
  fs0 : x = [] → fst (levels f) = H
theorem fi_of {f : T} (h : plain f = true) : Fi f (opn (levels f)).1 (opn (levels f)).2 := by
  have hf := filter_parts (plain_filter h)
  have hne := levels_ne f
  refine ⟨h, fun y hy => lv_good2 (hf.2.1 y (opn_mem y hy)) (okF_mem hf.1 y (opn_mem y hy)) (opn_noH hf.1 y hy), fun t => goes_tk _ t hf.1, ?_, ?_, ?_⟩
  · intro ho
    unfold opn at ho ⊢
    split at ho
    · simp at ho
    · rename_i hl
      rw [if_neg hl]
      refine ⟨hne, fun h0 => hf.2.2.1 ?_⟩
      have h1 : levels f = [[]] := h0
      rw [← join_levels f, h1]; rfl
  · intro hx
    generalize levels f = L at *
    cases L with
    | nil => exact absurd rfl hne
    | cons y r =>
      by_cases hy : y = H
      · have hr := okF_hash hf.1 hy
        subst hy; subst hr
        exact absurd rfl hx
      · rw [opn_cons (.inl hy)]; rfl
  · intro hx
    generalize levels f = L at *
    cases L with
    | nil => exact absurd rfl hne
    | cons y r =>
      by_cases hy : y = H
      · exact hy
      · rw [opn_cons (.inl hy)] at hx; simp at hx

/-- levels that f takes are a topic of f's -/
theorem Fi.mt {f : T} {x : List T} {o : Bool} (F : Fi f x o) {l : List T} (hg : ∀ y ∈ l, Cr.good y) (hne : ¬ (l = [] ∨ l = [[]])) (hl : (join l).length ≤ 65535) (ht : tk x o l)
    (hd : dol (fst l) = true → sg (fst (levels f)) = false) : Cr.mt f (join l) = true := by
  obtain ⟨h1, h2⟩ := topic_of hg hne hl
  refine mt_parts.2 ⟨F.pl, h1, ?_, ?_⟩
  · rintro ⟨h3, h4⟩
    rw [hd (head_join l h3)] at h4
    simp at h4
  · rw [h2]; exact (F.iff l).2 ht
theorem Fi.nmt {f : T} {x : List T} {o : Bool} (F : Fi f x o) {l : List T} (hg : ∀ y ∈ l, Cr.good y) (hne : l ≠ []) (ht : ¬ tk x o l) : Cr.mt f (join l) = false := by
  rw [Bool.eq_false_iff]
  intro h
  have h4 := (mt_parts.1 h).2.2.2
  rw [levels_join l hne (fun y hy => (hg y hy).1)] at h4
  exact ht ((F.iff l).1 h4)

/-- x's levels, filled to n, the one at i being c -/
def cd (x : List T) (n i : Nat) (c : T) : List T := (fill x n).set i c
theorem fill_len {x : List T} {n : Nat} (h : x.length ≤ n) : (fill x n).length = n := by simp [fill]; omega
theorem cd_len {x : List T} {n i : Nat} {c : T} (h : x.length ≤ n) : (cd x n i c).length = n := by unfold cd; rw [List.length_set, fill_len h]
theorem cd_fill (x : List T) (n : Nat) (h : x.length ≤ n) : cd x n n [] = fill x n := List.set_eq_of_length_le (by rw [fill_len h]; exact Nat.le_refl _)
theorem fill_get {x : List T} {n j : Nat} (hj : j < (fill x n).length) : (fill x n)[j] = if h : j < x.length then lv x[j] else [] := by
  revert hj; unfold fill; intro hj
  by_cases h : j < x.length
  · rw [dif_pos h, List.getElem_append_left (by simpa using h), List.getElem_map]
  · rw [dif_neg h, List.getElem_append_right (by simpa using h), List.getElem_replicate]

theorem cd_get {x : List T} {n i : Nat} {c : T} {j : Nat} (hj : j < (cd x n i c).length) : (cd x n i c)[j] = if j = i then c else if h : j < x.length then lv x[j] else [] := by
  revert hj; unfold cd; intro hj
  rw [List.getElem_set]
  by_cases hij : i = j
  · rw [if_pos hij, if_pos hij.symm]
  · rw [if_neg hij, if_neg (Ne.symm hij), fill_get]
theorem fst_get {l : List T} (h : 0 < l.length) : fst l = l[0] := by
  cases l with
  | nil => simp at h
  | cons a r => rfl
theorem leP_get : ∀ {l t : List T}, l.length ≤ t.length → (∀ i (h : i < l.length) (h2 : i < t.length), l[i].length ≤ t[i].length) → leP l t
  | [], _, _, _ => trivial
  | a :: l, [], h, _ => by simp at h
  | a :: l, b :: t, h, h2 => ⟨h2 0 (by simp) (by simp), leP_get (by simpa using h) (fun i h3 h4 => h2 (i + 1) (by simpa using h3) (by simpa using h4))⟩
theorem lv_le (x y : T) (h : x = P ∨ x = y) : (lv x).length ≤ y.length := by
  by_cases hx : x = P
  · simp [lv, hx]
  · rw [lv_ne hx]
    rcases h with h | h
    · exact absurd h hx
    · rw [h]; exact Nat.le_refl _

section
variable {f : T} {x : List T} {o : Bool} {n i : Nat} {c : T}
theorem cd_good (F : Fi f x o) (hn : x.length ≤ n) (hc : Cr.good c) : ∀ y ∈ cd x n i c, Cr.good y := by
  intro y hy
  obtain ⟨j, hj, rfl⟩ := List.mem_iff_getElem.1 hy
  rw [cd_get hj]
  split
  · exact hc
  · split
    · exact F.good _ (List.getElem_mem _)
    · exact good_nil
theorem cd_tk (hn : x.length ≤ n) (ho : o = true ∨ x.length = n) (hi : ∀ h : i < x.length, x[i] = P) : tk x o (cd x n i c) := by
  refine ⟨by rw [cd_len hn]; exact hn, by rw [cd_len hn]; exact ho, fun j h h2 => ?_⟩
  rw [cd_get h2]
  by_cases hji : j = i
  · subst hji; exact .inl (hi h)
  · rw [if_neg hji, dif_pos h]
    by_cases hx : x[j] = P
    · exact .inl hx
    · exact .inr (lv_ne hx).symm
theorem cd_size {t : List T} (hn : x.length ≤ n) (ht : tk x o t) (hnt : n ≤ t.length) (hi : ∀ h : i < t.length, i < n → c.length ≤ t[i].length) : (join (cd x n i c)).length ≤ (join t).length := by
  refine leP_join (leP_get (by rw [cd_len hn]; exact hnt) (fun j h h2 => ?_))
  rw [cd_get h]
  rw [cd_len hn] at h
  by_cases hji : j = i
  · subst hji; rw [if_pos rfl]; exact hi h2 h
  · rw [if_neg hji]
    split
    · rename_i hj
      exact lv_le _ _ (ht.2.2 j hj h2)
    · simp
theorem cd_fst {t : List T} (hn : x.length ≤ n) (h1 : 1 ≤ n) (hc : dol c = false) (ht : tk x o t) (htn : 0 < t.length) (hd : dol (fst (cd x n i c)) = true) : fst (cd x n i c) = fst t ∧ ∃ h : 0 < x.length, x[0] ≠ P ∧ x[0] = fst t := by
  have hl : 0 < (cd x n i c).length := by rw [cd_len hn]; omega
  rw [fst_get hl, cd_get hl] at hd ⊢
  by_cases h0 : 0 = i
  · rw [if_pos h0, hc] at hd; simp at hd
  · rw [if_neg h0] at hd ⊢
    by_cases hx : 0 < x.length
    · rw [dif_pos hx] at hd ⊢
      have hP : x[0] ≠ P := by intro e; rw [e] at hd; simp [lv, dol] at hd
      rw [lv_ne hP]
      have he : x[0] = fst t := by
        rcases ht.2.2 0 hx htn with h | h
        · exact absurd h hP
        · rw [fst_get htn, h]
      exact ⟨he, hx, hP, he⟩
    · rw [dif_neg hx] at hd; simp [dol] at hd
end

/-- what is known of a topic of f's -/
structure Ta (f : T) (x : List T) (o : Bool) (t : List T) : Prop where
  fi : Fi f x o
  tk : tk x o t
  ne : t ≠ []
  ne2 : t ≠ [[]]
  len : (join t).length ≤ 65535
  hd : dol (fst t) = true → sg (fst (levels f)) = false
  tp : levels (join t) = t → isTopic (join t) = true
theorem ta_of {f t : T} (h : mt f t = true) : Ta f (opn (levels f)).1 (opn (levels f)).2 (levels t) := by
  obtain ⟨h1, h2, h3, h4⟩ := mt_parts.1 h
  have F := fi_of h1
  refine ⟨F, (F.iff _).1 h4, levels_ne t, topic_ne h2, ?_, ?_, ?_⟩
  · rw [join_levels]
    simp only [isTopic, isText, Bool.and_eq_true, decide_eq_true_eq] at h2
    exact h2.1.2.1
  · intro hd
    have := fst_levels t hd
    rw [Bool.eq_false_iff]
    exact fun hs => h3 ⟨this, hs⟩
  · intro _; rw [join_levels]; exact h2
theorem Ta.top {f : T} {x : List T} {o : Bool} {t : List T} (A : Ta f x o t) (htl : levels (join t) = t) : isTopic (join t) = true := (A.tp htl)
theorem Ta.pos {f : T} {x : List T} {o : Bool} {t : List T} (A : Ta f x o t) : 0 < t.length := by
  rcases Nat.eq_zero_or_pos t.length with h | h
  · exact absurd (List.length_eq_zero_iff.1 h) A.ne
  · exact h

/-- a candidate is a topic of f's -/
theorem Ta.cd_mt {f : T} {x : List T} {o : Bool} {t : List T} (A : Ta f x o t) {n i : Nat} {c : T} (hn : x.length ≤ n) (h1 : 1 ≤ n) (ho : o = true ∨ x.length = n) (hnt : n ≤ t.length) (hi : ∀ h : i < x.length, x[i] = P)
    (hc : good c) (hcd : dol c = false) (hct : ∀ h : i < t.length, i < n → c.length ≤ t[i].length) (hs : cd x n i c ≠ [[]]) : mt f (join (cd x n i c)) = true := by
  refine A.fi.mt (cd_good A.fi hn hc) ?_ ?_ (cd_tk hn ho hi) (fun hd => ?_)
  · rintro (h | h)
    · have := cd_len (x := x) (n := n) (i := i) (c := c) hn
      rw [h] at this; simp at this; omega
    · exact hs h
  · exact Nat.le_trans (cd_size hn A.tk hnt hct) A.len
  · have h2 := cd_fst hn h1 hcd A.tk A.pos hd
    refine A.hd ?_
    rw [← h2.1]; exact hd
theorem Ta.fill_mt {f : T} {x : List T} {o : Bool} {t : List T} (A : Ta f x o t) {n : Nat} (hn : x.length ≤ n) (h1 : 1 ≤ n) (ho : o = true ∨ x.length = n) (hnt : n ≤ t.length) (hs : fill x n ≠ [[]]) : mt f (join (fill x n)) = true := by
  rw [← cd_fill x n hn] at hs ⊢
  exact A.cd_mt hn h1 ho hnt (fun h => by omega) good_nil rfl (fun h h2 => by simp) hs

theorem good_97 : good [97] := ⟨by intro c hc; simp at hc; subst hc; decide, okB_97, by decide⟩
theorem good_98 : good [98] := ⟨by intro c hc; simp at hc; subst hc; decide, okB_98, by decide⟩
/-- one level, not of bytes: nothing, a +, or nothing that is said -/
theorem fill_special {x : List T} {n : Nat} (hn : x.length ≤ n) (h : fill x n = [[]]) : n = 1 ∧ (x = [] ∨ x = [P] ∨ x = [[]]) := by
  have h1 := fill_len hn
  rw [h] at h1
  have h1 : n = 1 := by simpa using h1.symm
  subst h1
  refine ⟨rfl, ?_⟩
  cases x with
  | nil => exact .inl rfl
  | cons a r =>
    have hr : r = [] := by
      cases r with
      | nil => rfl
      | cons b r => simp at hn
    subst hr
    right
    simp [fill] at h
    by_cases ha : a = P
    · exact .inl (by rw [ha])
    · rw [lv_ne ha] at h; exact .inr (by rw [h])
/-- one letter is a topic of f's, if f has one level that is free -/
theorem Fi.one {f : T} {x : List T} {o : Bool} (F : Fi f x o) (hx : (x = [] ∧ o = true) ∨ x = [P]) {c : T} (hc : Cr.good c) (hcd : dol c = false) (hc1 : c ≠ []) (hcl : c.length ≤ 65535) : Cr.mt f c = true := by
  have : join [c] = c := rfl
  rw [← this]
  refine F.mt (by intro y hy; simp at hy; rw [hy]; exact hc) ?_ hcl ?_ ?_
  · rintro (h | h)
    · simp at h
    · simp at h; exact hc1 h
  · rcases hx with ⟨h, ho⟩ | h
    · rw [h]; exact ⟨Nat.zero_le _, .inl ho, fun i h => by simp at h⟩
    · rw [h]; exact ⟨Nat.le_refl _, .inr rfl, fun i h h2 => .inl (by simp)⟩
  · intro hd
    rw [show fst [c] = c from rfl, hcd] at hd; simp at hd

theorem Fi.one97 {f : T} {x : List T} {o : Bool} (F : Fi f x o) (hx : (x = [] ∧ o = true) ∨ x = [P]) : Cr.mt f (join [[97]]) = true := F.one (c := [97]) hx good_97 rfl (by simp) (by simp)
theorem Fi.one98 {f : T} {x : List T} {o : Bool} (F : Fi f x o) (hx : (x = [] ∧ o = true) ∨ x = [P]) : Cr.mt f (join [[98]]) = true := F.one (c := [98]) hx good_98 rfl (by simp) (by simp)
theorem shw_of {l : List T} {f g : T} (hne : l ≠ []) (h1 : mt f (join l) = true) (h2 : mt g (join l) = false) : shw l f g = true := by
  have ht := (mt_parts.1 h1).2.1
  simp only [isTopic, isText, Bool.and_eq_true, decide_eq_true_eq, Bool.not_eq_true'] at ht
  have hn : 1 ≤ (join l).length := by
    cases hj : join l with
    | nil => rw [hj] at ht; simp at ht
    | cons a r => simp
  unfold shw
  rw [decide_eq_true hne, decide_eq_true ⟨hn, ht.1.2.1⟩, h1, h2]; rfl
theorem shw_to {l : List T} {f g : T} (h : shw l f g = true) : mt f (join l) = true ∧ mt g (join l) = false := by
  simp only [shw, Bool.and_eq_true, Bool.not_eq_true'] at h
  exact ⟨h.1.2, h.2⟩
/-- the places at which another level can be said -/
def spot (x y : List T) (o : Bool) (i : Nat) : Bool := !((decide (i < x.length) && x.getD i [] != P) || (decide (x.length ≤ i) && !o) || y.getD i [] != [])
def outOk (f g : T) : Bool :=
  plain f &&
    (let x := (opn (levels f)).1
     let o := (opn (levels f)).2
     let m := max x.length 1
     let y := (opn (levels g)).1
     shw (alive (fill x m) []) f g || shw (alive (fill x m) [97]) f g || (o && shw (fill x (m + 1)) f g) ||
      (plain g && ((o && (List.range (max m y.length + 2)).any fun n => decide (m + 2 ≤ n) && shw (fill x n) f g) ||
        (List.range y.length).any fun i => spot x y o i && shw ((fill x (max m (i + 1))).set i [97]) f g)))

/-- the ways to be found -/
inductive Found (f g : T) (x y : List T) (o : Bool) : Prop where
  | a (h : shw (alive (fill x (max x.length 1)) []) f g = true)
  | b (h : shw (alive (fill x (max x.length 1)) [97]) f g = true)
  | c (ho : o = true) (h : shw (fill x (max x.length 1 + 1)) f g = true)
  | d (hg : plain g = true) (ho : o = true) (n : Nat) (h1 : max x.length 1 + 2 ≤ n) (h2 : n < max (max x.length 1) y.length + 2) (h : shw (fill x n) f g = true)
  | e (hg : plain g = true) (i : Nat) (hi : i < y.length) (h1 : spot x y o i = true) (h : shw (cd x (max (max x.length 1) (i + 1)) i [97]) f g = true)
theorem Found.ok {f g : T} (hf : plain f = true) (h : Found f g (opn (levels f)).1 (opn (levels g)).1 (opn (levels f)).2) : outOk f g = true := by
  unfold outOk
  simp only [Bool.and_eq_true, Bool.or_eq_true, List.any_eq_true, decide_eq_true_eq, List.mem_range]
  refine ⟨hf, ?_⟩
  cases h with
  | a h => exact .inl (.inl (.inl h))
  | b h => exact .inl (.inl (.inr h))
  | c ho h => exact .inl (.inr ⟨ho, h⟩)
  | d hg ho n h1 h2 h => exact .inr ⟨hg, .inl ⟨ho, n, h2, h1, h⟩⟩
  | e hg i hi h1 h => exact .inr ⟨hg, .inr ⟨i, hi, h1, h⟩⟩
theorem spot_of {x y : List T} {o : Bool} {i : Nat} (hi : i < y.length) (hy : y[i] = []) (hx : ∀ h : i < x.length, x[i] = P) (ho : x.length ≤ i → o = true) : spot x y o i = true := by
  unfold spot
  have h1 : y.getD i [] = [] := by rw [List.getD_eq_getElem?_getD, List.getElem?_eq_getElem hi, hy]; rfl
  rw [h1]
  by_cases h : i < x.length
  · have h2 : x.getD i [] = P := by rw [List.getD_eq_getElem?_getD, List.getElem?_eq_getElem h, hx h]; rfl
    rw [h2, decide_eq_true h, decide_eq_false (by omega)]; rfl
  · rw [decide_eq_false h, decide_eq_true (by omega), ho (by omega)]; rfl

theorem out_found {f g : T} {x : List T} {o : Bool} {t : List T} (A : Ta f x o t) {y : List T} {p : Bool} (G : plain g = true → Fi g y p) (hg : mt g (join t) = false) (htl : levels (join t) = t) : Found f g x y o := by
  have hm : x.length ≤ max x.length 1 := by omega
  have hxt := A.tk.1
  have htp := A.pos
  have hmt : max x.length 1 ≤ t.length := by omega
  -- the shortest topic, if it is one
  have k1 : ∀ n, max x.length 1 ≤ n → n ≤ t.length → (o = true ∨ x.length = n) → fill x n ≠ [[]] → mt f (join (fill x n)) = true := fun n h1 h2 h3 h4 => A.fill_mt (by omega) (by omega) h3 h2 h4
  have hom : o = true ∨ x.length = max x.length 1 := by
    cases o with
    | true => exact .inl rfl
    | false =>
      right
      have := (A.fi.ne rfl).1
      have : x.length ≠ 0 := fun h => this (List.length_eq_zero_iff.1 h)
      omega
  -- nothing is said: a letter, or one level more
  have k2 : fill x (max x.length 1) = [[]] → (∀ c, good c → dol c = false → c ≠ [] → c.length ≤ 65535 → mt f c = true) ∨ (x = [[]] ∧ o = true ∧ 2 ≤ t.length) := by
    intro h
    obtain ⟨h1, h2⟩ := fill_special hm h
    rcases h2 with h2 | h2 | h2
    · left; intro c hc h3 h4 h5
      refine A.fi.one (.inl ⟨h2, ?_⟩) hc h3 h4 h5
      cases o with
      | true => rfl
      | false => exact absurd h2 (A.fi.ne rfl).1
    · left; intro c hc h3 h4 h5; exact A.fi.one (.inr h2) hc h3 h4 h5
    · right
      have ho : o = true := by
        cases o with
        | true => rfl
        | false => exact absurd h2 (A.fi.ne rfl).2
      refine ⟨h2, ho, ?_⟩
      rcases Nat.lt_or_ge t.length 2 with h3 | h3
      · have h4 : t.length = 1 := by omega
        have h5 := A.tk.2.2 0 (by rw [h2]; simp) (by omega)
        subst h2
        rcases h5 with h5 | h5
        · simp at h5
        · exfalso
          refine A.ne2 ?_
          cases t with
          | nil => simp at h4
          | cons a r =>
            have : r = [] := List.length_eq_zero_iff.1 (by simpa using h4)
            subst this
            simp at h5; rw [← h5]
      · exact h3
  have fne : ∀ n, 1 ≤ n → x.length ≤ n → fill x n ≠ [] := by
    intro n h1 h2 h
    have := fill_len h2
    rw [h] at this; simp at this; omega
  -- if every list of levels up to t's length that f takes is outside g
  have first : (∀ l : List T, (∀ z ∈ l, good z) → l ≠ [] → (l.length = max x.length 1 ∨ (l.length = 2 ∧ x = [[]])) → l.length ≤ t.length → tk x o l → (∀ i (h : i < l.length) (h2 : i < x.length), x[i] ≠ P → l[i] = x[i]) → mt g (join l) = false) → Found f g x y o := by
    intro hh
    by_cases hs : fill x (max x.length 1) = [[]]
    · rcases k2 hs with h | ⟨h1, h2, h3⟩
      · refine .a ?_
        rw [hs]
        show shw [[97]] f g = true
        have hm1 := (fill_special hm hs).1
        have hmt97 : mt f [97] = true := h [97] good_97 rfl (by simp) (by simp)
        have htk : tk x o [[97]] := by
          have := (mt_parts.1 hmt97).2.2.2
          rw [show levels [97] = [[97]] from rfl] at this
          exact (A.fi.iff _).1 this
        refine shw_of (by simp) hmt97 (hh [[97]] (by intro z hz; simp at hz; rw [hz]; exact good_97) (by simp) (.inl (by rw [hm1]; rfl)) (by show 1 ≤ t.length; omega) htk ?_)
        intro i h4 h5 h6
        rcases htk.2.2 i h5 h4 with h7 | h7
        · exact absurd h7 h6
        · exact h7.symm
      · have hm1 := (fill_special hm hs).1
        have hl : (fill x (max x.length 1 + 1)).length = max x.length 1 + 1 := fill_len (by omega)
        have hns : fill x (max x.length 1 + 1) ≠ [[]] := by intro h; rw [h] at hl; have hl : 1 = _ := hl; omega
        refine .c h2 (shw_of (fne _ (by omega) (by omega)) (k1 _ (by omega) (by omega) (.inl h2) hns) (hh _ ?_ (fne _ (by omega) (by omega)) (.inr ⟨by omega, h1⟩) (by omega) ?_ ?_))
        · rw [← cd_fill x _ (by omega)]; exact cd_good A.fi (by omega) good_nil
        · rw [← cd_fill x _ (by omega)]; exact cd_tk (by omega) (.inl h2) (fun h => by omega)
        · intro i h4 h5 h6
          subst h1
          have : i = 0 := by simpa using h5
          subst this
          simp [fill, lv]
    · have hl : (fill x (max x.length 1)).length = max x.length 1 := fill_len hm
      refine .a ?_
      rw [alive, if_neg hs]
      refine shw_of (fne _ (by omega) hm) (k1 _ (Nat.le_refl _) hmt hom hs) (hh _ ?_ (fne _ (by omega) hm) (.inl hl) (by omega) ?_ ?_)
      · rw [← cd_fill x _ hm]; exact cd_good A.fi hm good_nil
      · rw [← cd_fill x _ hm]; exact cd_tk hm hom (fun h => by omega)
      · intro i h4 h5 h6
        have : ∀ l, l = fill x (max x.length 1) → ∀ h : i < l.length, l[i] = x[i] := by
          intro l hl' h
          subst hl'
          have hc := cd_fill x (max x.length 1) hm
          have h' : i < (cd x (max x.length 1) (max x.length 1) []).length := by rw [hc]; exact h
          have := cd_get h'
          rw [if_neg (by omega), dif_pos h5, lv_ne h6] at this
          rw [← this]
          congr 1
          exact hc.symm
        exact this _ rfl h4
  by_cases hpg : plain g = true
  · have GG := G hpg
    by_cases hdl : dol (fst t) = true ∧ sg (fst (levels g)) = true
    · -- t begins with a $
      have hsf := A.hd hdl.1
      have hx0 : 0 < x.length := by
        rcases Nat.eq_zero_or_pos x.length with h | h
        · rw [A.fi.fs0 (List.length_eq_zero_iff.1 h)] at hsf
          simp [sg] at hsf
        · exact h
      have hxP : x[0] ≠ P := by
        intro h
        rw [A.fi.fs (fun h => by rw [h] at hx0; simp at hx0), fst_get hx0, h] at hsf
        simp [sg] at hsf
      refine first (fun l hgd hne hlen hlt htk hli => ?_)
      rw [Bool.eq_false_iff]
      intro hmt2
      have h5 := mt_parts.1 hmt2
      have hl0 : 0 < l.length := by
        rcases Nat.eq_zero_or_pos l.length with h | h
        · exact absurd (List.length_eq_zero_iff.1 h) hne
        · exact h
      refine h5.2.2.1 ⟨fst_levels _ ?_, hdl.2⟩
      rw [levels_join l hne (fun z hz => (hgd z hz).1), fst_get hl0, hli 0 hl0 hx0 hxP]
      have := A.tk.2.2 0 hx0 htp
      rcases this with h | h
      · exact absurd h hxP
      · rw [h, ← fst_get htp]; exact hdl.1
    · -- t's levels aren't g's
      have hnt : ¬ tk y p t := by
        intro h
        have hgo := (GG.iff t).2 h
        rw [Bool.eq_false_iff] at hg
        refine hg (mt_parts.2 ⟨hpg, ?_, ?_, ?_⟩)
        · exact A.top htl
        · rintro ⟨h1, h2⟩
          exact hdl ⟨by rw [← htl]; exact head_levels _ h1, h2⟩
        · rw [htl]; exact hgo
      by_cases h1 : t.length < y.length
      · refine first (fun l hgd hne hlen hlt htk hli => GG.nmt hgd hne (fun h => ?_))
        have := h.1; omega
      by_cases h2 : p = false ∧ y.length ≠ t.length
      · by_cases h3 : max x.length 1 ≤ y.length
        · -- one level more than g has
          have ho : o = true := by
            rcases A.tk.2.1 with h | h
            · exact h
            · exfalso; omega
          have hl : (fill x (y.length + 1)).length = y.length + 1 := fill_len (by omega)
          have hns : fill x (y.length + 1) ≠ [[]] := by intro h; rw [h] at hl; have hl : 1 = _ := hl; omega
          have hsh : shw (fill x (y.length + 1)) f g = true := by
            refine shw_of (fne _ (by omega) (by omega)) (k1 _ (by omega) (by omega) (.inl ho) hns) (GG.nmt ?_ (fne _ (by omega) (by omega)) (fun h => ?_))
            · rw [← cd_fill x _ (by omega)]; exact cd_good A.fi (by omega) good_nil
            · rcases h.2.1 with h | h
              · rw [h2.1] at h; simp at h
              · omega
          by_cases h4 : y.length = max x.length 1
          · refine .c ho ?_
            rw [← h4]; exact hsh
          · exact .d hpg ho (y.length + 1) (by omega) (by omega) hsh
        · refine first (fun l hgd hne hlen hlt htk hli => GG.nmt hgd hne (fun h => ?_))
          rcases h.2.1 with h | h
          · rw [h2.1] at h; simp at h
          · rcases hlen with h5 | ⟨h5, h6⟩
            · omega
            · rw [h6] at h3
              have h7 : ¬ 1 ≤ y.length := h3
              exact (GG.ne h2.1).1 (List.length_eq_zero_iff.1 (by omega))
      -- a level that is another one
      have h3 : ∃ i, ∃ h : i < y.length, ∃ h2 : i < t.length, y[i] ≠ P ∧ y[i] ≠ t[i] := by
        refine Classical.byContradiction (fun hno => hnt ⟨by omega, ?_, fun i h h2 => ?_⟩)
        · cases p with
          | true => exact .inl rfl
          | false => exact .inr (Classical.byContradiction fun h => h2 ⟨rfl, h⟩)
        · refine Classical.byContradiction (fun h3 => hno ⟨i, h, h2, fun h4 => h3 (.inl h4), fun h4 => h3 (.inr h4)⟩)
      obtain ⟨i, hiy, hit, hyP, hyt⟩ := h3
      have differ : ∀ l : List T, (∀ z ∈ l, good z) → l ≠ [] → (∀ h : i < l.length, y[i] ≠ l[i]) → mt g (join l) = false := by
        intro l hgd hne hd
        refine GG.nmt hgd hne (fun h => ?_)
        have h5 := h.1
        rcases h.2.2 i hiy (by omega) with h6 | h6
        · exact hyP h6
        · exact hd (by omega) h6
      by_cases hix : i < x.length
      · by_cases hxP : x[i] = P
        · by_cases hye : y[i] = []
          · -- a letter there
            have hmm : max (max x.length 1) (i + 1) = max x.length 1 := by omega
            have hti : t[i] ≠ [] := fun h => hyt (by rw [hye, h])
            have hlen97 : ([97] : T).length ≤ t[i].length := by
              cases hti2 : t[i] with
              | nil => exact absurd hti2 hti
              | cons a r => simp
            refine .e hpg i hiy (spot_of hiy hye (fun _ => hxP) (fun h => by omega)) ?_
            rw [hmm]
            have hcl : (cd x (max x.length 1) i [97]).length = max x.length 1 := cd_len hm
            have hget : ∀ h : i < (cd x (max x.length 1) i [97]).length, (cd x (max x.length 1) i [97])[i] = [97] := fun h => by rw [cd_get h, if_pos rfl]
            have hne : cd x (max x.length 1) i [97] ≠ [] := by intro h; rw [h] at hcl; simp at hcl; omega
            refine shw_of hne (A.cd_mt hm (by omega) hom hmt (fun _ => hxP) good_97 rfl (fun _ _ => hlen97) ?_) (differ _ (cd_good A.fi hm good_97) hne (fun h => ?_))
            · intro h
              have h7 := hget (by omega)
              simp only [h] at h7
              have h8 : i = 0 := by rw [h] at hcl; simp at hcl; omega
              subst h8
              simp at h7
            · rw [hget h, hye]; simp
          · by_cases hs : fill x (max x.length 1) = [[]]
            · obtain ⟨hm1, hsx⟩ := fill_special hm hs
              have h0 : i = 0 := by omega
              subst h0
              have hxx : x = [P] := by
                rcases hsx with h | h | h
                · rw [h] at hix; simp at hix
                · exact h
                · subst h; simp at hxP
              by_cases hy97 : y[0] = [97]
              · refine .b ?_
                rw [hs]
                show shw [[98]] f g = true
                refine shw_of (by simp) (A.fi.one98 (.inr hxx)) (differ [[98]] (by intro z hz; simp at hz; rw [hz]; exact good_98) (by simp) (fun h => ?_))
                rw [hy97]; simp
              · refine .a ?_
                rw [hs]
                show shw [[97]] f g = true
                exact shw_of (by simp) (A.fi.one97 (.inr hxx)) (differ [[97]] (by intro z hz; simp at hz; rw [hz]; exact good_97) (by simp) (fun h => by simpa using hy97))
            · refine .a ?_
              rw [alive, if_neg hs]
              refine shw_of (fne _ (by omega) hm) (k1 _ (Nat.le_refl _) hmt hom hs) ?_
              have hc := cd_fill x (max x.length 1) hm
              rw [← hc]
              refine differ _ (cd_good A.fi hm good_nil) (by rw [hc]; exact fne _ (by omega) hm) (fun h => ?_)
              rw [cd_get h, if_neg (by omega), dif_pos hix, hxP]
              simpa [lv] using hye
        · -- f says the level
          have hxt : x[i] = t[i] := by
            rcases A.tk.2.2 i hix hit with h | h
            · exact absurd h hxP
            · exact h
          refine first (fun l hgd hne hlen hlt htk hli => differ l hgd hne (fun h => ?_))
          rw [hli i h hix hxP, hxt]; exact hyt
      · -- f has it open
        have ho : o = true := by
          rcases A.tk.2.1 with h | h
          · exact h
          · exfalso; omega
        by_cases hye : y[i] = []
        · have hti : t[i] ≠ [] := fun h => hyt (by rw [hye, h])
          have hlen97 : ([97] : T).length ≤ t[i].length := by
            cases hti2 : t[i] with
            | nil => exact absurd hti2 hti
            | cons a r => simp
          refine .e hpg i hiy (spot_of hiy hye (fun h => absurd h hix) (fun _ => ho)) ?_
          have hn1 : x.length ≤ max (max x.length 1) (i + 1) := by omega
          have hcl : (cd x (max (max x.length 1) (i + 1)) i [97]).length = max (max x.length 1) (i + 1) := cd_len hn1
          have hget : ∀ h : i < (cd x (max (max x.length 1) (i + 1)) i [97]).length, (cd x (max (max x.length 1) (i + 1)) i [97])[i] = [97] := fun h => by rw [cd_get h, if_pos rfl]
          have hne : cd x (max (max x.length 1) (i + 1)) i [97] ≠ [] := by intro h; rw [h] at hcl; simp at hcl; omega
          refine shw_of hne (A.cd_mt hn1 (by omega) (.inl ho) (by omega) (fun h => absurd h hix) good_97 rfl (fun _ _ => hlen97) ?_) (differ _ (cd_good A.fi hn1 good_97) hne (fun h => ?_))
          · intro h
            have h7 := hget (by omega)
            simp only [h] at h7
            have h8 : i = 0 := by rw [h] at hcl; simp at hcl; omega
            subst h8
            simp at h7
          · rw [hget h, hye]; simp
        · by_cases hs : fill x (i + 1) = [[]]
          · obtain ⟨hm1, hsx⟩ := fill_special (by omega) hs
            have h0 : i = 0 := by omega
            subst h0
            have hxx : x = [] := List.length_eq_zero_iff.1 (by omega)
            have hs2 : fill x (max x.length 1) = [[]] := by rw [hxx]; rfl
            by_cases hy97 : y[0] = [97]
            · refine .b ?_
              rw [hs2]
              show shw [[98]] f g = true
              refine shw_of (by simp) (A.fi.one98 (.inl ⟨hxx, ho⟩)) (differ [[98]] (by intro z hz; simp at hz; rw [hz]; exact good_98) (by simp) (fun h => ?_))
              rw [hy97]; simp
            · refine .a ?_
              rw [hs2]
              show shw [[97]] f g = true
              exact shw_of (by simp) (A.fi.one97 (.inl ⟨hxx, ho⟩)) (differ [[97]] (by intro z hz; simp at hz; rw [hz]; exact good_97) (by simp) (fun h => by simpa using hy97))
          · have hsh : shw (fill x (i + 1)) f g = true := by
              refine shw_of (fne _ (by omega) (by omega)) (k1 _ (by omega) (by omega) (.inl ho) hs) ?_
              have hc := cd_fill x (i + 1) (by omega)
              rw [← hc]
              refine differ _ (cd_good A.fi (by omega) good_nil) (by rw [hc]; exact fne _ (by omega) (by omega)) (fun h => ?_)
              rw [cd_get h, if_neg (by omega), dif_neg hix]
              exact hye
            by_cases h4 : i + 1 = max x.length 1
            · refine .a ?_
              rw [← h4, alive, if_neg hs]; exact hsh
            by_cases h5 : i + 1 = max x.length 1 + 1
            · refine .c ho ?_
              rw [← h5]; exact hsh
            · exact .d hpg ho (i + 1) (by omega) (by omega) hsh
  · exact first (fun l _ _ _ _ _ _ => by
      rw [Bool.eq_false_iff]
      intro h
      exact hpg (mt_parts.1 h).1)

theorem out_ref_complete {f g t : T} (h1 : mt f t = true) (h2 : mt g t = false) : outOk f g = true := by
  have A := ta_of h1
  refine Found.ok A.fi.pl (out_found A (p := (opn (levels g)).2) (fun h => fi_of h) ?_ ?_)
  · rw [join_levels]; exact h2
  · rw [join_levels]
theorem out_ref (f g : T) : outOk f g = (outside f g).isSome := by
  rw [Bool.eq_iff_iff]
  constructor
  · intro h
    have hh : ∃ l, shw l f g = true := by
      unfold outOk at h
      simp only [Bool.and_eq_true, Bool.or_eq_true, List.any_eq_true] at h
      obtain ⟨_, (((h | h) | h) | h)⟩ := h
      · exact ⟨_, h⟩
      · exact ⟨_, h⟩
      · exact ⟨_, h.2⟩
      · obtain ⟨_, (h | h)⟩ := h
        · obtain ⟨_, n, _, _, h⟩ := h; exact ⟨_, h⟩
        · obtain ⟨i, _, _, h⟩ := h; exact ⟨_, h⟩
    obtain ⟨l, h⟩ := hh
    obtain ⟨h3, h4⟩ := shw_to h
    obtain ⟨s, hs⟩ := outside_complete h3 h4
    rw [hs]; rfl
  · intro h
    obtain ⟨s, hs⟩ := Option.isSome_iff_exists.1 h
    obtain ⟨h3, h4⟩ := outside_sound hs
    exact out_ref_complete h3 h4

/-! Meet -/
end Cr
