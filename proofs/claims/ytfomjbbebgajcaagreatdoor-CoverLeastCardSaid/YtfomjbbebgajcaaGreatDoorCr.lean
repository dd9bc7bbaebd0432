/- Plain laws: levels of texts, texts as UTF-8, topics and filters, matching; what Meet and Outside tell (no Go in it). -/
set_option linter.unusedVariables false
/- Levels, topics, filters as lists of bytes: plain Lean, no program. -/
namespace Cr
abbrev T := List UInt8

def levels : T → List T
  | [] => [[]]
  | c :: s => if c = 47 then [] :: levels s else
    match levels s with
    | [] => [[c]]
    | l :: r => (c :: l) :: r

def join : List T → T
  | [] => []
  | [l] => l
  | l :: r => l ++ 47 :: join r

theorem levels_ne (s : T) : levels s ≠ [] := by
  cases s with
  | nil => simp [levels]
  | cons c s => unfold levels; split; · simp
                split <;> simp

theorem levels_cons (c : UInt8) (s : T) (h : c ≠ 47) : ∃ l r, levels s = l :: r ∧ levels (c :: s) = (c :: l) :: r := by
  cases hl : levels s with
  | nil => exact absurd hl (levels_ne s)
  | cons l r => exact ⟨l, r, rfl, by simp [levels, h, hl]⟩

theorem join_cons (l : T) (r : List T) (h : r ≠ []) : join (l :: r) = l ++ 47 :: join r := by
  cases r with
  | nil => exact absurd rfl h
  | cons a b => rfl

theorem join_levels (s : T) : join (levels s) = s := by
  induction s with
  | nil => rfl
  | cons c s ih =>
    by_cases h : c = 47
    · subst h
      simp only [levels, if_true]
      rw [join_cons _ _ (levels_ne s), ih]; rfl
    · obtain ⟨l, r, h1, h2⟩ := levels_cons c s h
      rw [h2]; rw [h1] at ih
      cases r with
      | nil => simp only [join] at ih ⊢; rw [ih]
      | cons a b => rw [join_cons _ _ (by simp)] at ih ⊢; rw [← ih]; rfl

/-- no level has a slash -/
def noSl (x : T) : Prop := ∀ c ∈ x, c ≠ 47

theorem levels_noSl (s : T) : ∀ x ∈ levels s, noSl x := by
  induction s with
  | nil => intro x hx; simp [levels] at hx; subst hx; intro c hc; simp at hc
  | cons c s ih =>
    by_cases h : c = 47
    · subst h
      simp only [levels, if_true]
      intro x hx
      rcases List.mem_cons.1 hx with rfl | hx
      · intro c hc; simp at hc
      · exact ih x hx
    · obtain ⟨l, r, h1, h2⟩ := levels_cons c s h
      rw [h2]; rw [h1] at ih
      intro x hx
      rcases List.mem_cons.1 hx with rfl | hx
      · intro d hd
        rcases List.mem_cons.1 hd with rfl | hd
        · exact h
        · exact ih l (by simp) d hd
      · exact ih x (by simp [hx])

theorem levels_append (x s : T) (h : noSl x) : levels (x ++ 47 :: s) = x :: levels s := by
  induction x with
  | nil => simp [levels]
  | cons c x ih =>
    have hc : c ≠ 47 := h c (by simp)
    obtain ⟨l, r, h1, h2⟩ := levels_cons c (x ++ 47 :: s) hc
    rw [ih (fun d hd => h d (by simp [hd]))] at h1
    rw [List.cons_append, h2]
    simp only [List.cons.injEq] at h1
    rw [← h1.1, ← h1.2]

theorem levels_one (x : T) (h : noSl x) : levels x = [x] := by
  induction x with
  | nil => rfl
  | cons c x ih =>
    have hc : c ≠ 47 := h c (by simp)
    obtain ⟨l, r, h1, h2⟩ := levels_cons c x hc
    rw [ih (fun d hd => h d (by simp [hd]))] at h1
    simp only [List.cons.injEq] at h1
    rw [h2, ← h1.1, ← h1.2]

theorem levels_join (l : List T) (h : l ≠ []) (hs : ∀ x ∈ l, noSl x) : levels (join l) = l := by
  induction l with
  | nil => exact absurd rfl h
  | cons a r ih =>
    cases r with
    | nil => exact levels_one a (hs a (by simp))
    | cons b r =>
      rw [join_cons _ _ (by simp), levels_append _ _ (hs a (by simp)), ih (by simp) (fun x hx => hs x (by simp [hx]))]

/-! texts: bytes that are UTF-8 without a zero -/
def more (a : UInt8) : Option (Nat × UInt8 × UInt8) :=
  if a < 0x80 then some (0, 0, 0)
  else if 0xC2 ≤ a ∧ a ≤ 0xDF then some (1, 0x80, 0xBF)
  else if a = 0xE0 then some (2, 0xA0, 0xBF)
  else if a = 0xED then some (2, 0x80, 0x9F)
  else if 0xE1 ≤ a ∧ a ≤ 0xEF then some (2, 0x80, 0xBF)
  else if a = 0xF0 then some (3, 0x90, 0xBF)
  else if 0xF1 ≤ a ∧ a ≤ 0xF3 then some (3, 0x80, 0xBF)
  else if a = 0xF4 then some (3, 0x80, 0x8F)
  else none

def conts : Nat → UInt8 → UInt8 → T → Bool
  | 0, _, _, _ => true
  | _ + 1, _, _, [] => false
  | n + 1, lo, hi, c :: r => decide (lo ≤ c) && decide (c ≤ hi) && conts n 0x80 0xBF r

def okB : T → Bool
  | [] => true
  | a :: r => if a = 0 then false else
    match more a with
    | none => false
    | some (n, lo, hi) => conts n lo hi r && okB (r.drop n)
termination_by s => s.length
decreasing_by simp; omega

theorem okB_nil : okB [] = true := by unfold okB; rfl
theorem okB_cons (a : UInt8) (r : T) : okB (a :: r) = if a = 0 then false else
    match more a with
    | none => false
    | some (n, lo, hi) => conts n lo hi r && okB (r.drop n) := by rw [okB]
theorem okB_ascii (a : UInt8) (r : T) (h0 : a ≠ 0) (h : a < 0x80) : okB (a :: r) = okB r := by
  rw [okB_cons, if_neg h0]; simp [more, h, conts]

theorem more_lo {a : UInt8} {n : Nat} {lo hi : UInt8} (h : more a = some (n, lo, hi)) : n = 0 ∨ 0x80 ≤ lo := by
  unfold more at h
  repeat' split at h
  all_goals first | (simp at h; done) | (simp only [Option.some.injEq, Prod.mk.injEq] at h; obtain ⟨rfl, rfl, rfl⟩ := h; first | exact .inl rfl | (right; decide))

theorem conts_split (n : Nat) : ∀ (lo hi : UInt8) (x s : T), (n = 0 ∨ 0x80 ≤ lo) → n ≤ x.length → conts n lo hi (x ++ s) = conts n lo hi x := by
  induction n with
  | zero => intros; rfl
  | succ n ih =>
    intro lo hi x s hlo hn
    cases x with
    | nil => simp at hn
    | cons c x =>
      simp only [List.cons_append, conts]
      rw [ih 0x80 0xBF x s (.inr (by decide)) (by simpa using hn)]

theorem conts_short (n : Nat) : ∀ (lo hi : UInt8) (x s : T), (n = 0 ∨ 0x80 ≤ lo) → x.length < n → conts n lo hi (x ++ 47 :: s) = false := by
  induction n with
  | zero => intro _ _ x _ _ h; omega
  | succ n ih =>
    intro lo hi x s hlo hn
    cases x with
    | nil =>
      have : ¬ lo ≤ 47 := by
        rcases hlo with h | h
        · omega
        · intro h2; exact absurd (UInt8.le_trans h h2) (by decide)
      simp [conts, this]
    | cons c x =>
      simp only [List.cons_append, conts]
      rw [ih 0x80 0xBF x s (.inr (by decide)) (by simp at hn; omega)]; simp

theorem conts_len (n : Nat) : ∀ (lo hi : UInt8) (x : T), conts n lo hi x = true → n ≤ x.length := by
  induction n with
  | zero => intros; omega
  | succ n ih =>
    intro lo hi x h
    cases x with
    | nil => simp [conts] at h
    | cons c x => simp only [conts, Bool.and_eq_true] at h; have := ih _ _ _ h.2; simp; omega

theorem okB_append (x s : T) : okB (x ++ 47 :: s) = (okB x && okB s) := by
  match x with
  | [] => rw [List.nil_append, okB_ascii _ _ (by decide) (by decide), okB_nil]; rfl
  | a :: r =>
    rw [List.cons_append, okB_cons, okB_cons]
    by_cases h0 : a = 0
    · simp [h0]
    · rw [if_neg h0, if_neg h0]
      cases hm : more a with
      | none => rfl
      | some p =>
        obtain ⟨n, lo, hi⟩ := p
        have hlo := more_lo hm
        simp only []
        by_cases hn : n ≤ r.length
        · rw [conts_split n lo hi r _ hlo hn, List.drop_append_of_le_length hn, okB_append (r.drop n) s, Bool.and_assoc]
        · rw [conts_short n lo hi r _ hlo (by omega)]
          have : conts n lo hi r = false := by
            cases hc : conts n lo hi r with
            | false => rfl
            | true => exact absurd (conts_len _ _ _ _ hc) hn
          rw [this]; rfl
termination_by x.length
decreasing_by simp; omega

theorem okB_join (l : List T) : okB (join l) = l.all okB := by
  induction l with
  | nil => rw [join, okB_nil]; rfl
  | cons a r ih =>
    cases r with
    | nil => simp [join]
    | cons b r => rw [join_cons _ _ (by simp), okB_append, ih]; rfl
end Cr

/- Topics and filters; matching; a topic that two filters match. -/
namespace Cr

abbrev P : T := [43]
abbrev H : T := [35]
def share : T := [36, 115, 104, 97, 114, 101]
def sg (x : T) : Bool := x == P || x == H
def dol (x : T) : Bool := x.head? == some 36
def wildIn (x : T) : Bool := x.any fun c => c == 43 || c == 35

/-- a text: not too long, and UTF-8 without a zero -/
def isText (s : T) : Bool := decide (s.length ≤ 65535) && okB s
def isTopic (s : T) : Bool := !s.isEmpty && isText s && !wildIn s
/-- levels as a filter may have them -/
def okF : List T → Bool
  | [] => true
  | x :: r => (!wildIn x || decide (x.length ≤ 1)) && (!(x == H) || r.isEmpty) && okF r
def isFilter (s : T) : Bool := !s.isEmpty && isText s && okF (levels s)
def shared (s : T) : Option (T × T) :=
  match levels s with
  | a :: b :: c :: r => if a = share ∧ isTopic b = true ∧ isFilter (join (c :: r)) = true ∧ isFilter s = true then some (b, join (c :: r)) else none
  | _ => none
def plain (s : T) : Bool := isFilter s && (shared s).isNone

def goes : List T → List T → Bool
  | [], t => t.isEmpty
  | x :: f, t => if x = H then true else
    match t with
    | [] => false
    | y :: t => if x ≠ P ∧ x ≠ y then false else goes f t
def fst (l : List T) : T := l.headD []
def mt (f t : T) : Bool := plain f && isTopic t && !(t.head? == some 36 && sg (fst (levels f))) && goes (levels f) (levels t)

def lv (x : T) : T := if x = P then [] else x
def least : List T → List T
  | [] => []
  | x :: r => if x = H then [] else lv x :: least r

def walk : List T → List T → Option (List T)
  | [], [] => some []
  | [], y :: _ => if y = H then some [] else none
  | x :: _, [] => if x = H then some [] else none
  | x :: a, y :: b =>
    if x = H then some (least (y :: b))
    else if y = H then some (least (x :: a))
    else if x = P then (walk a b).map (lv y :: ·)
    else if y = P ∨ x = y then (walk a b).map (x :: ·)
    else none

/-- the topic of levels, if it is one (told) -/
def told (l : List T) (free : Bool) (fs : List T) : Option T :=
  if l = [] ∨ l = [[]] then
    if free then some [97] else if fs.all (fun f => mt f [47]) then some [47] else none
  else if (join l).length ≤ 65535 then some (join l) else none

def meet (f g : T) : Option T :=
  if plain f ∧ plain g then
    let a := levels f
    let b := levels g
    if (sg (fst a) && dol (fst b)) || (sg (fst b) && dol (fst a)) then none
    else match walk a b with
      | none => none
      | some o => told o (sg (fst a) && sg (fst b)) [f, g]
  else none

/-! small things -/
theorem okF_cons {x : T} {r : List T} (h : okF (x :: r) = true) : okF r = true := by simp [okF] at h; exact h.2
theorem okF_wild {x : T} {r : List T} (h : okF (x :: r) = true) (hp : x ≠ P) (hh : x ≠ H) : wildIn x = false := by
  simp only [okF, Bool.and_eq_true, Bool.or_eq_true, Bool.not_eq_true', decide_eq_true_eq] at h
  rcases h.1.1 with h | h
  · exact h
  · match x, h with
    | [], _ => rfl
    | [c], _ =>
      simp only [wildIn, List.any_cons, List.any_nil, Bool.or_false]
      cases hc : (c == 43 || c == 35)
      · rfl
      · simp only [Bool.or_eq_true, beq_iff_eq] at hc
        rcases hc with rfl | rfl
        · exact absurd rfl hp
        · exact absurd rfl hh
theorem okF_hash {x : T} {r : List T} (h : okF (x :: r) = true) (hx : x = H) : r = [] := by
  simp only [okF, Bool.and_eq_true, Bool.or_eq_true, Bool.not_eq_true'] at h
  rcases h.1.2 with h | h
  · simp [hx] at h
  · simpa using h
theorem lv_ne {x : T} (h : x ≠ P) : lv x = x := by simp [lv, h]

/-- pointwise: nothing, or the same -/
def le : List T → List T → Prop
  | [], _ => True
  | _ :: _, [] => False
  | x :: o, y :: t => (x = [] ∨ x = y) ∧ le o t

theorem goes_le_least : ∀ (a t : List T), goes a t = true → le (least a) t
  | [], _, _ => trivial
  | x :: a, t, h => by
    unfold goes at h
    by_cases hx : x = H
    · simp [least, hx, le]
    · rw [if_neg hx] at h
      cases t with
      | nil => simp at h
      | cons y t =>
        simp only [least, hx, if_false]
        by_cases hc : x ≠ P ∧ x ≠ y
        · simp [hc] at h
        · simp only [hc, if_false] at h
          refine ⟨?_, goes_le_least a t h⟩
          by_cases hp : x = P
          · exact .inl (by simp [lv, hp])
          · right; rw [lv_ne hp]; exact Classical.byContradiction fun he => hc ⟨hp, he⟩

theorem goes_least : ∀ (a : List T), goes a (least a) = true
  | [] => rfl
  | x :: a => by
    unfold goes least
    by_cases hx : x = H
    · simp [hx]
    · simp only [hx, if_false]
      have : ¬ (x ≠ P ∧ x ≠ lv x) := by
        rintro ⟨h1, h2⟩; exact h2 (lv_ne h1).symm
      simp only [this, if_false]; exact goes_least a

theorem goes_cons (x y : T) (a t : List T) (hx : x ≠ H) : goes (x :: a) (y :: t) = (decide (x = P ∨ x = y) && goes a t) := by
  rw [goes, if_neg hx]
  by_cases h : x ≠ P ∧ x ≠ y
  · rw [if_pos h]; simp [h.1, h.2]
  · rw [if_neg h]
    have : x = P ∨ x = y := by
      by_cases h1 : x = P
      · exact .inl h1
      · exact .inr (Classical.byContradiction fun h2 => h ⟨h1, h2⟩)
    simp [this]
theorem goes_hash (a t : List T) : goes (H :: a) t = true := by cases t <;> rw [goes, if_pos rfl]
theorem goes_nil (x : T) (a : List T) (hx : x ≠ H) : goes (x :: a) [] = false := by rw [goes, if_neg hx]

/-! what levels of topics and filters are -/
/-- good: levels of a topic: texts without slash and sign -/
def good (x : T) : Prop := noSl x ∧ okB x = true ∧ wildIn x = false
theorem good_nil : good [] := ⟨fun c hc => by simp at hc, okB_nil, rfl⟩

theorem wild_append (a b : T) : wildIn (a ++ b) = (wildIn a || wildIn b) := by simp [wildIn]
theorem wild_join (l : List T) : wildIn (join l) = l.any wildIn := by
  induction l with
  | nil => rfl
  | cons a r ih =>
    cases r with
    | nil => simp [join]
    | cons b r => rw [join_cons _ _ (by simp), wild_append, List.any_cons, ← ih]; simp [wildIn]

theorem topic_levels {t : T} (h : isTopic t = true) : ∀ x ∈ levels t, good x := by
  simp only [isTopic, isText, Bool.and_eq_true, Bool.not_eq_true'] at h
  obtain ⟨⟨_, _, hk⟩, hw⟩ := h
  intro x hx
  refine ⟨levels_noSl t x hx, ?_, ?_⟩
  · rw [← join_levels t, okB_join] at hk
    exact List.all_eq_true.1 hk x hx
  · rw [← join_levels t, wild_join] at hw
    cases hc : wildIn x with
    | false => rfl
    | true => rw [List.any_eq_true.2 ⟨x, hx, hc⟩] at hw; cases hw

theorem filter_parts {f : T} (h : isFilter f = true) : okF (levels f) = true ∧ (∀ x ∈ levels f, noSl x ∧ okB x = true) ∧ f ≠ [] ∧ f.length ≤ 65535 := by
  simp only [isFilter, isText, Bool.and_eq_true, Bool.not_eq_true', decide_eq_true_eq] at h
  obtain ⟨⟨hn, hl, hk⟩, hw⟩ := h
  refine ⟨hw, fun x hx => ⟨levels_noSl f x hx, ?_⟩, by simpa using hn, hl⟩
  rw [← join_levels f, okB_join] at hk
  exact List.all_eq_true.1 hk x hx

theorem topic_of {l : List T} (h : ∀ x ∈ l, good x) (hne : ¬ (l = [] ∨ l = [[]])) (hl : (join l).length ≤ 65535) : isTopic (join l) = true ∧ levels (join l) = l := by
  have hl0 : l ≠ [] := fun e => hne (.inl e)
  have hlev := levels_join l hl0 (fun x hx => (h x hx).1)
  refine ⟨?_, hlev⟩
  simp only [isTopic, isText, Bool.and_eq_true, Bool.not_eq_true', decide_eq_true_eq]
  refine ⟨⟨?_, hl, ?_⟩, ?_⟩
  · cases hj : join l with
    | nil => rw [hj] at hlev; exact absurd (.inr hlev.symm) hne
    | cons a b => rfl
  · rw [okB_join]; exact List.all_eq_true.2 fun x hx => (h x hx).2.1
  · rw [wild_join]
    cases hc : l.any wildIn with
    | false => rfl
    | true => obtain ⟨x, hx, hw⟩ := List.any_eq_true.1 hc; rw [(h x hx).2.2] at hw; cases hw

theorem least_good : ∀ {a : List T}, okF a = true → (∀ x ∈ a, noSl x ∧ okB x = true) → ∀ x ∈ least a, good x
  | [], _, _, x, hx => by simp [least] at hx
  | y :: a, h1, h2, x, hx => by
    unfold least at hx
    split at hx
    · simp at hx
    · rename_i hy
      rcases List.mem_cons.1 hx with rfl | hx
      · by_cases hp : y = P
        · simp [lv, hp]; exact good_nil
        · rw [lv_ne hp]; exact ⟨(h2 y (by simp)).1, (h2 y (by simp)).2, okF_wild h1 hp hy⟩
      · exact least_good (okF_cons h1) (fun z hz => h2 z (by simp [hz])) x hx

end Cr

namespace Cr

theorem dol_sg {x : T} (h : dol x = true) : sg x = false := by
  cases x with
  | nil => rfl
  | cons c r =>
    simp only [dol, List.head?_cons, beq_iff_eq, Option.some.injEq] at h
    subst h
    simp [sg]
theorem head_join (o : List T) (h : (join o).head? = some 36) : dol (fst o) = true := by
  cases o with
  | nil => simp [join] at h
  | cons a r =>
    cases r with
    | nil => simpa [fst, dol, join] using h
    | cons b r =>
      rw [join_cons _ _ (by simp)] at h
      cases a with
      | nil => simp at h
      | cons c a => simpa [fst, dol] using h
theorem fst_levels (t : T) (h : dol (fst (levels t)) = true) : t.head? = some 36 := by
  cases t with
  | nil => simp [levels, fst, dol] at h
  | cons c s =>
    by_cases hc : c = 47
    · subst hc; simp [levels, fst, dol] at h
    · obtain ⟨l, r, h1, h2⟩ := levels_cons c s hc
      rw [h2] at h
      simpa [fst, dol] using h
theorem head_levels (t : T) (h : t.head? = some 36) : dol (fst (levels t)) = true := by
  rw [← join_levels t] at h; exact head_join _ h

theorem least_fst (b : List T) (h : dol (fst b) = false) : dol (fst (least b)) = false := by
  cases b with
  | nil => rfl
  | cons y b =>
    unfold least; split
    · rfl
    · show dol (lv y) = false
      by_cases hp : y = P
      · simp [lv, hp, dol]
      · rw [lv_ne hp]; exact h

theorem le_join : ∀ {o t : List T}, le o t → (join o).length ≤ (join t).length
  | [], _, _ => by simp [join]
  | [x], [], h => h.elim
  | [x], y :: t, h => by
    have hx : x.length ≤ y.length := by rcases h.1 with h | h <;> simp [h]
    cases t with
    | nil => simpa [join] using hx
    | cons z t => rw [join_cons y _ (by simp)]; simp [join]; omega
  | x :: x2 :: o, [], h => h.elim
  | x :: x2 :: o, [y], h => h.2.elim
  | x :: x2 :: o, y :: y2 :: t, h => by
    have hx : x.length ≤ y.length := by rcases h.1 with h | h <;> simp [h]
    have ih := le_join h.2
    rw [join_cons x (x2 :: o) (by simp), join_cons y (y2 :: t) (by simp)]
    simp; omega

theorem goes_a {a : List T} (hs : sg (fst a) = true) (h : goes a [] = true ∨ goes a [[]] = true) : goes a [[97]] = true := by
  match a with
  | [] => simp [fst, sg] at hs
  | x :: a =>
    by_cases hx : x = H
    · subst hx; exact goes_hash _ _
    · have hp : x = P := by simpa [fst, sg, hx] using hs
      rcases h with h | h
      · rw [goes_nil _ _ hx] at h; cases h
      · rw [goes_cons _ _ _ _ hx] at h ⊢
        simp only [Bool.and_eq_true] at h
        simp [hp, h.2]

theorem okB_97 : okB [97] = true := by rw [okB_ascii _ _ (by decide) (by decide), okB_nil]
theorem okB_98 : okB [98] = true := by rw [okB_ascii _ _ (by decide) (by decide), okB_nil]
theorem okB_47 : okB [47] = true := by rw [okB_ascii _ _ (by decide) (by decide), okB_nil]
theorem topic_97 : isTopic [97] = true := by simp [isTopic, isText, okB_97, wildIn]
theorem topic_98 : isTopic [98] = true := by simp [isTopic, isText, okB_98, wildIn]
theorem topic_47 : isTopic [47] = true := by simp [isTopic, isText, okB_47, wildIn]

theorem mt_parts {f t : T} : mt f t = true ↔ plain f = true ∧ isTopic t = true ∧ ¬ (t.head? = some 36 ∧ sg (fst (levels f)) = true) ∧ goes (levels f) (levels t) = true := by
  simp only [mt, Bool.and_eq_true, Bool.not_eq_true', and_assoc]
  constructor
  · rintro ⟨h1, h2, h3, h4⟩
    exact ⟨h1, h2, fun ⟨e1, e2⟩ => by rw [e1, e2] at h3; simp at h3, h4⟩
  · rintro ⟨h1, h2, h3, h4⟩
    refine ⟨h1, h2, ?_, h4⟩
    cases hc : (t.head? == some 36 && sg (fst (levels f))) with
    | false => rfl
    | true => simp only [Bool.and_eq_true, beq_iff_eq] at hc; exact absurd hc h3

theorem plain_filter {f : T} (h : plain f = true) : isFilter f = true := by simp [plain] at h; exact h.1

theorem topic_ne {t : T} (h : isTopic t = true) : levels t ≠ [[]] := by
  intro e
  have : t = [] := by rw [← join_levels t, e]; rfl
  subst this; simp [isTopic] at h

end Cr

namespace Cr

def other (y : T) : T := if y = [] then [97] else []
def nxt : List T → List T
  | [] => []
  | x :: r => if x = H then [H] else r
def leaves (f : T) (own ra : List T) (y : Option T) (level : T) (free : Bool) : Option T :=
  told (if own ++ level :: least (nxt ra) = [[]] ∧ free = true then (if y = some [97] then [[98]] else [[97]]) else own ++ level :: least (nxt ra)) false [f]

/-- may a topic of f end here, where g's go on? -/
def endsHere (own ra : List T) (s0 : Bool) (y : T) : Option T :=
  if own ≠ [] ∧ (ra = [] ∨ ra = [H]) ∧ y ≠ H then told own s0 [[]] else none

def osearch (f : T) (s0 : Bool) : List T → List T → List T → Option T
  | [], ra, own =>
    match ra with
    | [] => none
    | x :: _ => leaves f own ra none (if sg x then [] else x) (sg x)
  | y :: b, ra, own =>
    match endsHere own ra s0 y with
    | some s => some s
    | none =>
      match ra with
      | [] => none
      | x :: _ =>
        if y = H then none
        else if y = P then osearch f s0 b (nxt ra) (own ++ [if sg x then [] else x])
        else if sg x then
          match leaves f own ra (some y) (other y) true with
          | some s => some s
          | none => if own = [] ∧ dol y = true then none else osearch f s0 b (nxt ra) (own ++ [y])
        else if x = y then osearch f s0 b (nxt ra) (own ++ [x])
        else leaves f own ra (some y) x false

def outside (f g : T) : Option T :=
  if plain f then
    if plain g = false ∨ (sg (fst (levels g)) = true ∧ dol (fst (levels f)) = true) then told (least (levels f)) (sg (fst (levels f))) [f]
    else osearch f (sg (fst (levels f))) (levels g) (levels f) []
  else none
def within (f g : T) : Bool := (outside f g).isNone

theorem mt_nil (t : T) : mt [] t = false := by
  cases h : mt [] t with
  | false => rfl
  | true => obtain ⟨h, _⟩ := mt_parts.1 h; simp [plain, isFilter] at h

/-- what told tells -/
theorem told_cases {l : List T} {free : Bool} {fs : List T} {s : T} (h : told l free fs = some s) :
    ((l = [] ∨ l = [[]]) ∧ ((free = true ∧ s = [97]) ∨ (free = false ∧ s = [47] ∧ ∀ f ∈ fs, mt f [47] = true))) ∨
    (¬ (l = [] ∨ l = [[]]) ∧ (join l).length ≤ 65535 ∧ s = join l) := by
  unfold told at h
  split at h
  · rename_i ho
    refine .inl ⟨ho, ?_⟩
    split at h
    · cases h; exact .inl ⟨‹_›, rfl⟩
    · split at h
      · rename_i hf hall; cases h; exact .inr ⟨by simpa using hf, rfl, fun f hf => List.all_eq_true.1 hall f hf⟩
      · cases h
  · rename_i ho
    split at h
    · cases h; exact .inr ⟨ho, ‹_›, rfl⟩
    · cases h

theorem told_some {l : List T} {free : Bool} {fs : List T} (hne : ¬ (l = [] ∨ l = [[]])) (hl : (join l).length ≤ 65535) : told l free fs = some (join l) := by
  unfold told; rw [if_neg hne, if_pos hl]

/-- a filter's levels, and where the search stands -/
structure At (A B own ra b : List T) : Prop where
  fa : okF ra = true
  fb : okF b = true
  ta : ∀ x ∈ ra, noSl x ∧ okB x = true
  tb : ∀ x ∈ b, noSl x ∧ okB x = true
  go : ∀ x ∈ own, good x
  ga : ∀ t, goes A (own ++ t) = goes ra t
  gb : ∀ t, goes B (own ++ t) = goes b t
  ds : sg (fst A) = true → dol (fst own) = false
  zero : own = [] → ra = A ∧ b = B

theorem nxt_okF {ra : List T} (h : okF ra = true) : okF (nxt ra) = true := by
  cases ra with
  | nil => rfl
  | cons x r =>
    by_cases hx : x = H
    · simp only [nxt, hx, if_true]; decide
    · simp only [nxt, hx, if_false]; exact okF_cons h
theorem hash_text : noSl H ∧ okB H = true := ⟨by intro c hc; simp [H] at hc; subst hc; decide, by show okB [35] = true; rw [okB_ascii _ _ (by decide) (by decide), okB_nil]⟩
theorem nxt_text {ra : List T} (h : ∀ x ∈ ra, noSl x ∧ okB x = true) : ∀ x ∈ nxt ra, noSl x ∧ okB x = true := by
  cases ra with
  | nil => simp [nxt]
  | cons x r =>
    by_cases hx : x = H
    · simp only [nxt, hx, if_true]; intro y hy; rw [List.mem_singleton] at hy; subst hy; exact hash_text
    · simp only [nxt, hx, if_false]; intro y hy; exact h y (by simp [hy])
theorem goes_nxt {x : T} {r : List T} (z : T) (t : List T) (hr : okF (x :: r) = true) (h : x = H ∨ x = P ∨ x = z) : goes (x :: r) (z :: t) = goes (nxt (x :: r)) t := by
  by_cases hx : x = H
  · subst hx
    have := okF_hash hr rfl
    simp only [nxt, if_true]
    rw [goes_hash, goes_hash]
  · simp only [nxt, hx, if_false]
    rw [goes_cons _ _ _ _ hx]
    have : x = P ∨ x = z := h.resolve_left hx
    simp [this]
theorem sg_cases (x : T) : (sg x = true ∧ (x = H ∨ x = P)) ∨ (sg x = false ∧ x ≠ H ∧ x ≠ P) := by
  by_cases h1 : x = H
  · subst h1; exact .inl ⟨by decide, .inl rfl⟩
  · by_cases h2 : x = P
    · subst h2; exact .inl ⟨by decide, .inr rfl⟩
    · exact .inr ⟨by simp [sg, h1, h2], h1, h2⟩
theorem other_good (y : T) : good (other y) := by
  unfold other; split
  · exact ⟨by intro c hc; simp at hc; subst hc; decide, okB_97, by decide⟩
  · exact good_nil
theorem other_ne (y : T) : other y ≠ y := by
  unfold other; split
  · rename_i h; rw [h]; simp
  · rename_i h; exact fun e => h e.symm
theorem other_dol (y : T) : dol (other y) = false := by unfold other; split <;> decide

theorem fst_append (own t : List T) (h : own ≠ []) : fst (own ++ t) = fst own := by
  cases own with
  | nil => exact absurd rfl h
  | cons a b => rfl

/-- The search goes on by one level. -/
theorem At.step {A B own b : List T} {x y lev : T} {r : List T} (h : At A B own (x :: r) (y :: b)) (hx : x = H ∨ x = P ∨ x = lev) (hy : y ≠ H) (hl : y = P ∨ y = lev) (hg : good lev)
    (hd : own = [] → sg (fst A) = true → dol lev = false) : At A B (own ++ [lev]) (nxt (x :: r)) b where
  fa := nxt_okF h.fa
  fb := okF_cons h.fb
  ta := nxt_text h.ta
  tb := fun z hz => h.tb z (by simp [hz])
  go := fun z hz => by
    rcases List.mem_append.1 hz with hz | hz
    · exact h.go z hz
    · rw [List.mem_singleton] at hz; subst hz; exact hg
  ga := fun t => by rw [List.append_assoc, h.ga, List.singleton_append, goes_nxt lev t h.fa hx]
  gb := fun t => by
    rw [List.append_assoc, h.gb, List.singleton_append, goes_cons _ _ _ _ hy]
    simp [hl]
  ds := fun hs => by
    by_cases ho : own = []
    · subst ho; exact hd rfl hs
    · rw [fst_append _ _ ho]; exact h.ds hs
  zero := fun e => by simp at e

/-- leaves tells a topic of f that isn't one of g. -/
theorem leaves_sound {f g : T} {own r b : List T} {x lev s : T} {oy : Option T} {free : Bool} (hf : plain f = true)
    (h : At (levels f) (levels g) own (x :: r) b) (hx : x = H ∨ x = P ∨ x = lev) (hg : good lev) (hd : own = [] → sg (fst (levels f)) = true → dol lev = false)
    (hb : b = [] ∨ ∃ y b', b = y :: b' ∧ y ≠ H ∧ y ≠ P ∧ y ≠ lev ∧ oy = some y) (hfree : free = true → sg x = true) (h0 : b = [] → own ≠ [])
    (hs : leaves f own (x :: r) oy lev free = some s) : mt f s = true ∧ mt g s = false := by
  have hgood : ∀ z ∈ own ++ lev :: least (nxt (x :: r)), good z := fun z hz => by
    rcases List.mem_append.1 hz with hz | hz
    · exact h.go z hz
    · rcases List.mem_cons.1 hz with rfl | hz
      · exact hg
      · exact least_good (nxt_okF h.fa) (nxt_text h.ta) z hz
  have hga : goes (levels f) (own ++ lev :: least (nxt (x :: r))) = true := by
    rw [h.ga, goes_nxt _ _ h.fa hx]; exact goes_least _
  have hgb : ∀ t, goes (levels g) (own ++ lev :: t) = false := fun t => by
    rw [h.gb]
    rcases hb with rfl | ⟨y, b', rfl, h1, h2, h3, _⟩
    · rfl
    · rw [goes_cons _ _ _ _ h1]; simp [h2, h3]
  have nog : ∀ t : T, goes (levels g) (levels t) = false → mt g t = false := fun t ht => by
    cases hm : mt g t with
    | false => rfl
    | true => rw [(mt_parts.1 hm).2.2.2] at ht; cases ht
  unfold leaves at hs
  split at hs
  · rename_i hc
    obtain ⟨hl, hfr⟩ := hc
    have hsg := hfree hfr
    -- own = [], lev = [], least .. = []
    have hown : own = [] := by
      cases own with
      | nil => rfl
      | cons a c => simp at hl
    subst hown
    simp only [List.nil_append, List.cons.injEq] at hl
    obtain ⟨rfl, hle⟩ := hl
    obtain ⟨hA, hB⟩ := h.zero rfl
    rcases hb with rfl | ⟨y, b', rfl, h1, h2, h3, rfl⟩
    · exact absurd rfl (h0 rfl)
    · have hga1 : goes (levels f) [[]] = true := by rw [List.nil_append, hle] at hga; exact hga
      have hsA : sg (fst (levels f)) = true := by rw [← hA]; exact hsg
      have fin : ∀ c : UInt8, c ≠ 47 → okB [c] = true → isTopic [c] = true → c ≠ 36 → y ≠ [c] → goes (levels f) [[c]] = true → s = [c] → mt f s = true ∧ mt g s = false := by
        intro c hc _ ht hc36 hyc hgo hs
        subst hs
        have hlev : levels [c] = [[c]] := levels_one _ (by intro d hd; simp at hd; subst hd; exact hc)
        refine ⟨mt_parts.2 ⟨hf, ht, by simp [hc36], by rw [hlev]; exact hgo⟩, nog _ ?_⟩
        rw [hlev, ← hB, goes_cons _ _ _ _ h1]
        simp [h2, hyc]
      have g97 := goes_a hsA (.inr hga1)
      split at hs
      · rename_i hy
        simp only [Option.some.injEq] at hy
        rcases told_cases hs with ⟨h4, _⟩ | ⟨_, _, rfl⟩
        · simp at h4
        · refine fin 98 (by decide) okB_98 topic_98 (by decide) (by rw [hy]; decide) ?_ rfl
          match hL : levels f, hsA, hga1 with
          | [], h5, _ => simp [fst, sg] at h5
          | w :: r', h5, h6 =>
            rw [hL] at g97
            by_cases hw : w = H
            · subst hw; exact goes_hash _ _
            · have hwp : w = P := by simpa [fst, sg, hw] using h5
              rw [goes_cons _ _ _ _ hw] at h6 ⊢
              simp only [Bool.and_eq_true] at h6
              simp [hwp, h6.2]
      · rename_i hy
        simp only [Option.some.injEq] at hy
        rcases told_cases hs with ⟨h4, _⟩ | ⟨_, _, rfl⟩
        · simp at h4
        · exact fin 97 (by decide) okB_97 topic_97 (by decide) hy g97 rfl
  · rename_i hc
    rcases told_cases hs with ⟨hl, h5⟩ | ⟨hne, hlen, rfl⟩
    · rcases h5 with ⟨h5, _⟩ | ⟨_, rfl, hall⟩
      · cases h5
      · refine ⟨hall f (by simp), nog _ ?_⟩
        have hl' : own ++ lev :: least (nxt (x :: r)) = [[]] := by
          rcases hl with hl | hl
          · simp at hl
          · exact hl
        have hown : own = [] := by
          cases own with
          | nil => rfl
          | cons a c => simp at hl'
        subst hown
        simp only [List.nil_append, List.cons.injEq] at hl'
        obtain ⟨rfl, _⟩ := hl'
        have := hgb [[]]
        exact this
    · obtain ⟨ht, hlev⟩ := topic_of hgood hne hlen
      refine ⟨mt_parts.2 ⟨hf, ht, fun ⟨e1, e2⟩ => ?_, by rw [hlev]; exact hga⟩, nog _ (by rw [hlev]; exact hgb _)⟩
      have hd1 := head_join _ e1
      by_cases ho : own = []
      · subst ho
        have := hd rfl e2
        rw [show fst ([] ++ lev :: least (nxt (x :: r))) = lev from rfl, this] at hd1; cases hd1
      · rw [fst_append _ _ ho, h.ds e2] at hd1; cases hd1

theorem osearch_sound {f g : T} (hf : plain f = true) : ∀ (b ra own : List T) (s : T), At (levels f) (levels g) own ra b → (b = [] → own ≠ []) →
    osearch f (sg (fst (levels f))) b ra own = some s → mt f s = true ∧ mt g s = false
  | [], ra, own, s, h, h0, hs => by
    unfold osearch at hs
    split at hs
    · cases hs
    · rename_i x r
      have hc := sg_cases x
      refine leaves_sound hf h ?_ ?_ ?_ (.inl rfl) (fun e => e) h0 hs
      · rcases hc with ⟨h1, h2⟩ | ⟨h1, h2, h3⟩
        · rcases h2 with h2 | h2
          · exact .inl h2
          · exact .inr (.inl h2)
        · rw [h1]; exact .inr (.inr rfl)
      · rcases hc with ⟨h1, h2⟩ | ⟨h1, h2, h3⟩
        · rw [h1]; exact good_nil
        · rw [h1]; exact ⟨(h.ta x (by simp)).1, (h.ta x (by simp)).2, okF_wild h.fa h3 h2⟩
      · intro ho; exact absurd ho (h0 rfl)
  | y :: b, ra, own, s, h, _, hs => by
    have nog : ∀ t : T, goes (levels g) (levels t) = false → mt g t = false := fun t ht => by
      cases hm : mt g t with
      | false => rfl
      | true => rw [(mt_parts.1 hm).2.2.2] at ht; cases ht
    unfold osearch at hs
    split at hs
    · rename_i s' he
      cases hs
      unfold endsHere at he
      split at he
      · rename_i hc
        obtain ⟨ho, hra, hy⟩ := hc
        have hga : goes (levels f) own = true := by
          have := h.ga []
          rw [List.append_nil] at this; rw [this]
          rcases hra with rfl | rfl
          · rfl
          · exact goes_hash _ _
        have hgb : goes (levels g) own = false := by
          have := h.gb []
          rw [List.append_nil] at this; rw [this, goes_nil _ _ hy]
        rcases told_cases he with ⟨hl, h5⟩ | ⟨hne, hlen, rfl⟩
        · have hl' : own = [[]] := hl.resolve_left ho
          subst hl'
          rcases h5 with ⟨h5, rfl⟩ | ⟨_, _, h6⟩
          · refine ⟨mt_parts.2 ⟨hf, topic_97, by simp, goes_a h5 (.inr hga)⟩, nog _ ?_⟩
            show goes (levels g) [[97]] = false
            match hG : levels g with
            | [] => rfl
            | w :: c =>
              by_cases hw : w = H
              · rw [hG, hw, goes_hash] at hgb; cases hgb
              · rw [hG, goes_cons _ _ _ _ hw] at hgb
                have hgb1 := h.gb []
                have hc : goes c [] = false := by
                  have h7 := h.gb []
                  rw [List.append_nil, hG, goes_cons _ _ _ _ hw] at h7
                  by_cases hwp : w = P ∨ w = []
                  · have h9 := hgb
                    simp only [Bool.and_eq_false_iff, decide_eq_false_iff_not] at h9
                    exact h9.resolve_left (fun z => z hwp)
                  · -- w is consumed: goes B ([[]] ++ t) = goes (y :: b) t: take t that the rest matches
                    have h8 := h.gb (least (y :: b))
                    rw [goes_least, hG] at h8
                    simp only [List.singleton_append] at h8
                    rw [goes_cons _ _ _ _ hw] at h8
                    simp [hwp] at h8
                rw [goes_cons _ _ _ _ hw, hc, Bool.and_false]
          · have := h6 [] (by simp); rw [mt_nil] at this; cases this
        · obtain ⟨ht, hlev⟩ := topic_of h.go hne hlen
          refine ⟨mt_parts.2 ⟨hf, ht, fun ⟨e1, e2⟩ => ?_, by rw [hlev]; exact hga⟩, nog _ (by rw [hlev]; exact hgb)⟩
          have := head_join _ e1
          rw [h.ds e2] at this; cases this
      · cases he
    · split at hs
      · cases hs
      · rename_i x r _
        have hc := sg_cases x
        have hx0 : own = [] → x = fst (levels f) := fun e => by rw [← (h.zero e).1]; rfl
        split at hs
        · cases hs
        · rename_i hyh
          split at hs
          · rename_i hyp
            refine osearch_sound hf b _ _ s (h.step ?_ hyh (.inl hyp) ?_ ?_) (fun _ => by simp) hs
            · rcases hc with ⟨h1, h2⟩ | ⟨h1, h2, h3⟩
              · rcases h2 with h2 | h2
                · exact .inl h2
                · exact .inr (.inl h2)
              · rw [h1]; exact .inr (.inr rfl)
            · rcases hc with ⟨h1, h2⟩ | ⟨h1, h2, h3⟩
              · rw [h1]; exact good_nil
              · rw [h1]; exact ⟨(h.ta x (by simp)).1, (h.ta x (by simp)).2, okF_wild h.fa h3 h2⟩
            · intro ho hs'
              rw [← hx0 ho] at hs'; rw [hs']; rfl
          · rename_i hyp
            split at hs
            · rename_i hsx
              have hx : x = H ∨ x = P := by
                rcases hc with ⟨h1, h2⟩ | ⟨h1, h2, h3⟩
                · exact h2
                · rw [h1] at hsx; cases hsx
              split at hs
              · rename_i s' hl
                cases hs
                exact leaves_sound hf h (by rcases hx with h1 | h1; exact .inl h1; exact .inr (.inl h1)) (other_good y) (fun _ _ => other_dol y) (.inr ⟨y, b, rfl, hyh, hyp, (other_ne y).symm, rfl⟩) (fun _ => hsx) (fun e => by cases e) hl
              · split at hs
                · cases hs
                · rename_i hdl
                  refine osearch_sound hf b _ _ s (h.step (by rcases hx with h1 | h1; exact .inl h1; exact .inr (.inl h1)) hyh (.inr rfl) ⟨(h.tb y (by simp)).1, (h.tb y (by simp)).2, okF_wild h.fb hyp hyh⟩ ?_) (fun _ => by simp) hs
                  intro ho _
                  cases hdy : dol y with
                  | false => rfl
                  | true => exact absurd ⟨ho, hdy⟩ hdl
            · rename_i hsx
              have hsx' : sg x = false := by simpa using hsx
              obtain ⟨hxh, hxp⟩ : x ≠ H ∧ x ≠ P := by
                rcases hc with ⟨h1, _⟩ | ⟨_, h2, h3⟩
                · rw [h1] at hsx'; cases hsx'
                · exact ⟨h2, h3⟩
              have hgx : good x := ⟨(h.ta x (by simp)).1, (h.ta x (by simp)).2, okF_wild h.fa hxp hxh⟩
              have hdx : own = [] → sg (fst (levels f)) = true → dol x = false := fun ho hs' => by
                rw [← hx0 ho, hsx'] at hs'; cases hs'
              split at hs
              · rename_i hxy
                exact osearch_sound hf b _ _ s (h.step (.inr (.inr rfl)) hyh (.inr hxy.symm) hgx hdx) (fun _ => by simp) hs
              · rename_i hxy
                exact leaves_sound hf h (.inr (.inr rfl)) hgx hdx (.inr ⟨y, b, rfl, hyh, hyp, fun e => hxy e.symm, rfl⟩) (fun e => by cases e) (fun e => by cases e) hs

theorem at_start {f g : T} (hf : plain f = true) (hg : plain g = true) : At (levels f) (levels g) [] (levels f) (levels g) := by
  obtain ⟨af, bf, _⟩ := filter_parts (plain_filter hf)
  obtain ⟨ag, bg, _⟩ := filter_parts (plain_filter hg)
  exact ⟨af, ag, bf, bg, by simp, fun t => rfl, fun t => rfl, fun _ => rfl, fun _ => ⟨rfl, rfl⟩⟩

theorem outside_sound {f g s : T} (h : outside f g = some s) : mt f s = true ∧ mt g s = false := by
  unfold outside at h
  split at h
  · rename_i hf
    obtain ⟨af, bf, _⟩ := filter_parts (plain_filter hf)
    split at h
    · rename_i hc
      have hga := goes_least (levels f)
      rcases told_cases h with ⟨hl, h5⟩ | ⟨hne, hlen, rfl⟩
      · have hng : plain g = false := by
          rcases hc with hc | ⟨_, hc⟩
          · exact hc
          · exfalso
            have hsg := dol_sg hc
            match hL : levels f, hc, hsg, hl with
            | [], h1, _, _ => simp [fst, dol] at h1
            | x :: r, h1, h2, h3 =>
              have hx : dol x = true := h1
              have hxs : sg x = false := h2
              have hxh : x ≠ H := fun e => by subst e; simp [sg] at hxs
              have hxp : x ≠ P := fun e => by subst e; simp [sg] at hxs
              simp only [least, hxh, if_false, lv_ne hxp] at h3
              rcases h3 with h3 | h3
              · cases h3
              · simp only [List.cons.injEq] at h3; rw [h3.1] at hx; simp [dol] at hx
        have nog : mt g s = false := by
          cases hm : mt g s with
          | false => rfl
          | true => rw [(mt_parts.1 hm).1] at hng; cases hng
        refine ⟨?_, nog⟩
        rcases h5 with ⟨h5, rfl⟩ | ⟨_, rfl, h6⟩
        · exact mt_parts.2 ⟨hf, topic_97, by simp, goes_a h5 (by rcases hl with hl | hl <;> rw [hl] at hga; exact .inl hga; exact .inr hga)⟩
        · exact h6 f (by simp)
      · obtain ⟨ht, hlev⟩ := topic_of (least_good af bf) hne hlen
        refine ⟨mt_parts.2 ⟨hf, ht, fun ⟨e1, e2⟩ => ?_, by rw [hlev]; exact hga⟩, ?_⟩
        · have h1 := head_join _ e1
          have h2 : dol (fst (levels f)) = false := by
            cases hd : dol (fst (levels f)) with
            | false => rfl
            | true => rw [dol_sg hd] at e2; cases e2
          rw [least_fst _ h2] at h1; cases h1
        · rcases hc with hc | ⟨h1, h2⟩
          · cases hm : mt g (join (least (levels f))) with
            | false => rfl
            | true => rw [(mt_parts.1 hm).1] at hc; cases hc
          · cases hm : mt g (join (least (levels f))) with
            | false => rfl
            | true =>
              exfalso
              refine (mt_parts.1 hm).2.2.1 ⟨fst_levels _ ?_, h1⟩
              rw [hlev]
              match hL : levels f, h2 with
              | [], h3 => simp [fst, dol] at h3
              | x :: r, h3 =>
                have hxs : sg x = false := dol_sg h3
                have hxh : x ≠ H := fun e => by subst e; simp [sg] at hxs
                have hxp : x ≠ P := fun e => by subst e; simp [sg] at hxs
                simp only [least, hxh, if_false, lv_ne hxp]; exact h3
    · rename_i hc
      have hg : plain g = true := by
        cases hp : plain g with
        | false => exact absurd (.inl hp) hc
        | true => rfl
      exact osearch_sound hf _ _ _ s (at_start hf hg) (fun e => absurd e (levels_ne g)) h
  · cases h
end Cr

namespace Cr

/-- pointwise no longer, and as many -/
def leL : List T → List T → Prop
  | [], [] => True
  | x :: o, y :: t => x.length ≤ y.length ∧ leL o t
  | _, _ => False

theorem leL_append : ∀ {a b c d : List T}, leL a b → leL c d → leL (a ++ c) (b ++ d)
  | [], [], _, _, _, h => h
  | x :: a, y :: b, _, _, h1, h2 => ⟨h1.1, leL_append h1.2 h2⟩
  | [], _ :: _, _, _, h, _ => h.elim
  | _ :: _, [], _, _, h, _ => h.elim
theorem leL_len : ∀ {a b : List T}, leL a b → a.length = b.length
  | [], [], _ => rfl
  | x :: a, y :: b, h => by simp [leL_len h.2]
  | [], _ :: _, h => h.elim
  | _ :: _, [], h => h.elim

/-- pointwise no longer, of a beginning -/
def leP : List T → List T → Prop
  | [], _ => True
  | x :: o, y :: t => x.length ≤ y.length ∧ leP o t
  | _ :: _, [] => False
theorem leP_of_le : ∀ {o t : List T}, le o t → leP o t
  | [], _, _ => trivial
  | x :: o, y :: t, h => ⟨by rcases h.1 with h | h <;> simp [h], leP_of_le h.2⟩
  | _ :: _, [], h => h.elim
theorem leP_append : ∀ {a b c d : List T}, leL a b → leP c d → leP (a ++ c) (b ++ d)
  | [], [], _, _, _, h => h
  | x :: a, y :: b, _, _, h1, h2 => ⟨h1.1, leP_append h1.2 h2⟩
  | [], _ :: _, _, _, h, _ => h.elim
  | _ :: _, [], _, _, h, _ => h.elim
theorem leP_join : ∀ {o t : List T}, leP o t → (join o).length ≤ (join t).length
  | [], _, _ => by simp [join]
  | [x], [], h => h.elim
  | [x], y :: t, h => by
    have hx := h.1
    cases t with
    | nil => simpa [join] using hx
    | cons z t => rw [join_cons y _ (by simp)]; simp [join]; omega
  | x :: x2 :: o, [], h => h.elim
  | x :: x2 :: o, [y], h => h.2.elim
  | x :: x2 :: o, y :: y2 :: t, h => by
    have hx := h.1
    have ih := leP_join h.2
    rw [join_cons x (x2 :: o) (by simp), join_cons y (y2 :: t) (by simp)]
    simp; omega

theorem leaves_some {f : T} {own ra : List T} {oy : Option T} {lev : T} {free : Bool} {t1 : List T} {z : T} {t2 : List T} (h1 : leL own t1) (hz : lev.length ≤ z.length) (h2 : leP (least (nxt ra)) t2)
    (hl : (join (t1 ++ z :: t2)).length ≤ 65535) (hsp : own ++ lev :: least (nxt ra) = [[]] → free = true ∨ mt f [47] = true) : ∃ s, leaves f own ra oy lev free = some s := by
  have hlen := leP_join (leP_append h1 (show leP (lev :: least (nxt ra)) (z :: t2) from ⟨hz, h2⟩))
  unfold leaves
  by_cases hc : own ++ lev :: least (nxt ra) = [[]] ∧ free = true
  · rw [if_pos hc]
    split
    · exact ⟨_, told_some (by simp) (by simp [join])⟩
    · exact ⟨_, told_some (by simp) (by simp [join])⟩
  · rw [if_neg hc]
    by_cases he : own ++ lev :: least (nxt ra) = [[]]
    · have := hsp he
      have hm : mt f [47] = true := this.resolve_left (fun e => hc ⟨he, e⟩)
      unfold told
      rw [if_pos (.inr he)]
      simp [hm]
    · exact ⟨_, told_some (fun e => e.elim (fun e => by simp at e) he) (by omega)⟩

theorem osearch_complete {f g t : T} (hm : mt f t = true) : ∀ (b ra own t1 t2 : List T), At (levels f) (levels g) own ra b → (b = [] → own ≠ []) →
    leL own t1 → t1 ++ t2 = levels t → goes ra t2 = true → goes b t2 = false → ∃ s, osearch f (sg (fst (levels f))) b ra own = some s := by
  obtain ⟨hf, ht, df, gf⟩ := mt_parts.1 hm
  have htl : (join (levels t)).length ≤ 65535 := by
    rw [join_levels]; simp only [isTopic, isText, Bool.and_eq_true, decide_eq_true_eq] at ht; exact ht.1.2.1
  -- what lies behind a level of f's
  have tail : ∀ {x : T} {r : List T} {z : T} {t' : List T}, okF (x :: r) = true → goes (x :: r) (z :: t') = true → goes (nxt (x :: r)) t' = true ∧ (x = H ∨ x = P ∨ x = z) := by
    intro x r z t' hok hg
    by_cases hx : x = H
    · refine ⟨?_, .inl hx⟩
      simp only [nxt, hx, if_true]; exact goes_hash _ _
    · rw [goes_cons _ _ _ _ hx] at hg
      simp only [Bool.and_eq_true, decide_eq_true_eq] at hg
      exact ⟨by simp only [nxt, hx, if_false]; exact hg.2, .inr hg.1⟩
  intro b
  induction b with
  | nil =>
    intro ra own t1 t2 h h0 hle heq hga hgb
    match t2 with
    | [] => simp [goes] at hgb
    | z :: t2 =>
      match ra with
      | [] => simp [goes] at hga
      | x :: r =>
        unfold osearch
        obtain ⟨h1, h2⟩ := tail h.fa hga
        refine leaves_some hle ?_ (leP_of_le (goes_le_least _ _ h1)) (by rw [heq]; exact htl) ?_
        · rcases sg_cases x with ⟨e, _⟩ | ⟨e, e1, e2⟩
          · simp [e]
          · simp only [e, Bool.false_eq_true, if_false]
            rcases h2 with h2 | h2 | h2
            · exact absurd h2 e1
            · exact absurd h2 e2
            · simp [h2]
        · intro he
          have ho := h0 rfl
          cases own with
          | nil => exact absurd rfl ho
          | cons a c => simp at he
  | cons y b ih =>
    intro ra own t1 t2 h h0 hle heq hga hgb
    unfold osearch
    split
    · exact ⟨_, rfl⟩
    · rename_i hne
      match t2 with
      | [] =>
        -- the topic ends here
        exfalso
        have hown : own ≠ [] := by
          rintro rfl
          cases t1 with
          | nil => exact levels_ne t (by simpa using heq.symm)
          | cons a c => exact hle.elim
        have hra : ra = [] ∨ ra = [H] := by
          match ra with
          | [] => exact .inl rfl
          | x :: r =>
            by_cases hx : x = H
            · subst hx; rw [okF_hash h.fa rfl]; exact .inr rfl
            · rw [goes_nil _ _ hx] at hga; cases hga
        have hy : y ≠ H := fun e => by subst e; rw [goes_hash] at hgb; cases hgb
        unfold endsHere at hne
        rw [if_pos ⟨hown, hra, hy⟩] at hne
        rw [List.append_nil] at heq
        have hlen := leP_join (leP_append hle (show leP [] [] from trivial))
        rw [List.append_nil, List.append_nil, heq] at hlen
        unfold told at hne
        split at hne
        · rename_i hs
          have hs' := hs.resolve_left hown
          split at hne
          · cases hne
          · rename_i hs0
            subst hs'
            have hA : goes (levels f) [[]] = true := by
              have := h.ga []
              rw [List.append_nil] at this; rw [this]; exact hga
            -- one level, not a sign, and yet empty: t is empty
            have hlen1 := leL_len hle
            have hsg : sg (fst (levels f)) = false := by simpa using hs0
            match hL : levels f, hA, hsg with
            | [], _, _ => exact levels_ne f hL
            | w :: c, h5, h6 =>
              have hw : sg w = false := h6
              obtain ⟨w1, w2⟩ : w ≠ H ∧ w ≠ P := by
                rcases sg_cases w with ⟨e, _⟩ | ⟨_, e⟩
                · rw [e] at hw; cases hw
                · exact e
              rw [goes_cons _ _ _ _ w1] at h5
              simp only [Bool.and_eq_true, decide_eq_true_eq] at h5
              have hw0 := h5.1.resolve_left w2
              rw [hL, ← heq] at gf
              match t1, hlen1 with
              | [q], _ =>
                rw [goes_cons _ _ _ _ w1] at gf
                simp only [Bool.and_eq_true, decide_eq_true_eq] at gf
                have hq := gf.1.resolve_left w2
                rw [hw0] at hq
                exact topic_ne ht (by rw [← heq, ← hq])
        · rw [if_pos (by omega)] at hne; cases hne
      | z :: t2 =>
        match ra with
        | [] => simp [goes] at hga
        | x :: r =>
          simp only []
          obtain ⟨h1, h2⟩ := tail h.fa hga
          have hy : y ≠ H := fun e => by subst e; rw [goes_hash] at hgb; cases hgb
          rw [if_neg hy]
          rw [goes_cons _ _ _ _ hy] at hgb
          have hx0 : own = [] → x = fst (levels f) := fun e => by rw [← (h.zero e).1]; rfl
          have hz1 : good z := topic_levels ht z (by rw [← heq]; simp)
          have next : ∀ lev : T, (x = H ∨ x = P ∨ x = lev) → (y = P ∨ y = lev) → good lev → lev.length ≤ z.length → (own = [] → sg (fst (levels f)) = true → dol lev = false) → (y = P ∨ y = z) →
              ∃ s, osearch f (sg (fst (levels f))) b (nxt (x :: r)) (own ++ [lev]) = some s := by
            intro lev e1 e2 e3 e4 e5 e6
            refine ih _ _ (t1 ++ [z]) t2 (h.step e1 hy e2 e3 e5) (fun _ => by simp) (leL_append hle ⟨e4, trivial⟩) (by rw [List.append_assoc]; exact heq) h1 ?_
            simpa [e6] using hgb
          have hlv : (sg x = false → x = z) := fun e => by
            rcases sg_cases x with ⟨e0, _⟩ | ⟨_, e1, e2⟩
            · rw [e0] at e; cases e
            · rcases h2 with h2 | h2 | h2
              · exact absurd h2 e1
              · exact absurd h2 e2
              · exact h2
          split
          · rename_i hp
            refine next _ ?_ (.inl hp) ?_ ?_ ?_ (.inl hp)
            · rcases sg_cases x with ⟨e, e1 | e1⟩ | ⟨e, _⟩
              · exact .inl e1
              · exact .inr (.inl e1)
              · rw [e]; exact .inr (.inr rfl)
            · cases e : sg x
              · rw [hlv e]; exact hz1
              · exact good_nil
            · cases e : sg x
              · simp [hlv e]
              · simp
            · intro ho hs; rw [← hx0 ho] at hs; rw [hs]; rfl
          · rename_i hp
            split
            · rename_i hsx
              have hx : x = H ∨ x = P := by
                rcases sg_cases x with ⟨_, e⟩ | ⟨e, _⟩
                · exact e
                · rw [e] at hsx; cases hsx
              split
              · exact ⟨_, rfl⟩
              · rename_i hlvs
                have hzy : y = z := by
                  refine Classical.byContradiction fun hne2 => ?_
                  have hoz : (other y).length ≤ z.length := by
                    unfold other
                    split
                    · rename_i e
                      have : z ≠ [] := fun e2 => hne2 (by rw [e, e2])
                      cases z with
                      | nil => exact absurd rfl this
                      | cons a c => simp
                    · simp
                  obtain ⟨s, hs⟩ := leaves_some (f := f) (oy := some y) (free := true) hle hoz (leP_of_le (goes_le_least _ _ h1)) (by rw [heq]; exact htl) (fun _ => .inl rfl)
                  rw [hs] at hlvs; cases hlvs
                split
                · rename_i hd
                  exfalso
                  refine df ⟨fst_levels t ?_, by rw [← hx0 hd.1]; exact hsx⟩
                  have : t1 = [] := by
                    have := leL_len hle
                    rw [hd.1] at this
                    cases t1 with
                    | nil => rfl
                    | cons a c => simp at this
                  rw [← heq, this]
                  show dol z = true
                  rw [← hzy]; exact hd.2
                · rename_i hd
                  refine next y (by rcases hx with e | e; exact .inl e; exact .inr (.inl e)) (.inr rfl) (by rw [hzy]; exact hz1) (by simp [hzy]) ?_ (.inr hzy)
                  intro ho _
                  cases hdy : dol y with
                  | false => rfl
                  | true => exact absurd ⟨ho, hdy⟩ hd
            · rename_i hsx
              have hsx' : sg x = false := by simpa using hsx
              have hxz := hlv hsx'
              split
              · rename_i hxy
                refine next x (.inr (.inr rfl)) (.inr hxy.symm) (by rw [hxz]; exact hz1) (by simp [hxz]) ?_ (.inr (hxy.symm.trans hxz))
                intro ho hs; rw [← hx0 ho, hsx'] at hs; cases hs
              · rename_i hxy
                refine leaves_some hle (show x.length ≤ z.length by simp [hxz]) (leP_of_le (goes_le_least _ _ h1)) (by rw [heq]; exact htl) ?_
                intro he
                right
                have hown : own = [] := by
                  cases own with
                  | nil => rfl
                  | cons a c => simp at he
                subst hown
                simp only [List.nil_append, List.cons.injEq] at he
                obtain ⟨hxe, hle2⟩ := he
                have ht1 : t1 = [] := by
                  cases t1 with
                  | nil => rfl
                  | cons a c => exact hle.elim
                subst ht1
                have hA := (h.zero rfl).1
                have hxh : x ≠ H := fun e => by rw [e] at hsx'; simp [sg] at hsx'
                refine mt_parts.2 ⟨hf, topic_47, by simp, ?_⟩
                rw [← hA]
                simp only [nxt, hxh, if_false] at hle2 h1
                show goes (x :: r) [[], []] = true
                rw [goes_cons _ _ _ _ hxh]
                match r, hle2, h1 with
                | [], _, h3 =>
                  exfalso
                  simp only [goes, List.isEmpty_iff] at h3
                  refine topic_ne ht ?_
                  rw [← heq, h3, ← hxz, hxe]; rfl
                | q :: r, h4, _ =>
                  have hq : q = H := by
                    by_cases hq : q = H
                    · exact hq
                    · simp [least, hq] at h4
                  rw [hq, goes_hash]; simp [hxe]

theorem outside_complete {f g t : T} (h1 : mt f t = true) (h2 : mt g t = false) : ∃ s, outside f g = some s := by
  obtain ⟨hf, ht, df, gf⟩ := mt_parts.1 h1
  have htl : (join (levels t)).length ≤ 65535 := by
    rw [join_levels]; simp only [isTopic, isText, Bool.and_eq_true, decide_eq_true_eq] at ht; exact ht.1.2.1
  unfold outside
  rw [if_pos hf]
  split
  · -- the shortest topic of f
    unfold told
    split
    · rename_i hl
      split
      · exact ⟨_, rfl⟩
      · rename_i hs
        have hs' : sg (fst (levels f)) = false := by simpa using hs
        have : mt f [47] = true := by
          refine mt_parts.2 ⟨hf, topic_47, by simp, ?_⟩
          match hL : levels f, hs', hl, gf with
          | [], _, _, _ => exact absurd hL (levels_ne f)
          | x :: r, h3, h4, h5 =>
            have hx : sg x = false := h3
            obtain ⟨x1, x2⟩ : x ≠ H ∧ x ≠ P := by
              rcases sg_cases x with ⟨e, _⟩ | ⟨_, e⟩
              · rw [e] at hx; cases hx
              · exact e
            simp only [least, x1, if_false, lv_ne x2] at h4
            rcases h4 with h4 | h4
            · cases h4
            · simp only [List.cons.injEq] at h4
              obtain ⟨h6, h7⟩ := h4
              show goes (x :: r) [[], []] = true
              rw [goes_cons _ _ _ _ x1]
              match r, h7, h5 with
              | [], _, h8 =>
                exfalso
                match hT : levels t, h8 with
                | [], h9 => exact levels_ne t hT
                | z :: t', h9 =>
                  rw [goes_cons _ _ _ _ x1] at h9
                  simp only [goes, Bool.and_eq_true, decide_eq_true_eq, List.isEmpty_iff] at h9
                  exact topic_ne ht (by rw [hT, h9.2, ← h9.1.resolve_left x2, h6])
              | q :: r, h9, _ =>
                have hq : q = H := by
                  by_cases hq : q = H
                  · exact hq
                  · simp [least, hq] at h9
                rw [hq, goes_hash]; simp [h6]
        simp [this]
    · have := le_join (goes_le_least _ _ gf)
      rw [if_pos (by omega)]
      exact ⟨_, rfl⟩
  · rename_i hc
    have hg : plain g = true := by
      cases hp : plain g with
      | false => exact absurd (.inl hp) hc
      | true => rfl
    refine osearch_complete h1 _ _ _ [] (levels t) (at_start hf hg) (fun e => absurd e (levels_ne g)) trivial rfl gf ?_
    cases hgo : goes (levels g) (levels t) with
    | false => rfl
    | true =>
      exfalso
      have : mt g t = true := by
        refine mt_parts.2 ⟨hg, ht, ?_, hgo⟩
        rintro ⟨e1, e2⟩
        refine hc (.inr ⟨e2, ?_⟩)
        have hsf : sg (fst (levels f)) = false := by
          cases hs : sg (fst (levels f)) with
          | false => rfl
          | true => exact absurd ⟨e1, hs⟩ df
        match hL : levels f, hsf, gf with
        | [], _, _ => exact absurd hL (levels_ne f)
        | x :: r, h3, h5 =>
          have hx : sg x = false := h3
          obtain ⟨x1, x2⟩ : x ≠ H ∧ x ≠ P := by
            rcases sg_cases x with ⟨e, _⟩ | ⟨_, e⟩
            · rw [e] at hx; cases hx
            · exact e
          have h4 := head_levels t e1
          match hT : levels t, h5, h4 with
          | [], h6, _ => rw [hL] at gf; exact absurd hT (levels_ne t)
          | z :: t', h6, h7 =>
            rw [goes_cons _ _ _ _ x1] at h6
            simp only [Bool.and_eq_true, decide_eq_true_eq] at h6
            show dol x = true
            rw [h6.1.resolve_left x2]; exact h7
      rw [this] at h2; cases h2

end Cr
