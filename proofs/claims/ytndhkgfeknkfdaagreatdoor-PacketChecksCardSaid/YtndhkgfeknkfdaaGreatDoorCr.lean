/- Plain laws: levels of texts, texts as UTF-8, topics and filters, matching; what Meet and Outside tell (no Go in it). -/
set_option linter.unusedVariables false
/- Levels, topics, filters as lists of bytes: plain Lean, no program. -/
namespace Cr
abbrev T := List UInt8

def levels : T → List T
  | [] => [[]]
  | c :: s => if c = 47 then [] :: levels s else
    match levels s with
    | [] => [[c]]
    | l :: r => (c :: l) :: r

def join : List T → T
  | [] => []
  | [l] => l
  | l :: r => l ++ 47 :: join r

theorem levels_ne (s : T) : levels s ≠ [] := by
  cases s with
  | nil => simp [levels]
  | cons c s => unfold levels; split; · simp
                split <;> simp

theorem levels_cons (c : UInt8) (s : T) (h : c ≠ 47) : ∃ l r, levels s = l :: r ∧ levels (c :: s) = (c :: l) :: r := by
  cases hl : levels s with
  | nil => exact absurd hl (levels_ne s)
  | cons l r => exact ⟨l, r, rfl, by simp [levels, h, hl]⟩

theorem join_cons (l : T) (r : List T) (h : r ≠ []) : join (l :: r) = l ++ 47 :: join r := by
  cases r with
  | nil => exact absurd rfl h
  | cons a b => rfl

theorem join_levels (s : T) : join (levels s) = s := by
  induction s with
  | nil => rfl
  | cons c s ih =>
    by_cases h : c = 47
    · subst h
      simp only [levels, if_true]
      rw [join_cons _ _ (levels_ne s), ih]; rfl
    · obtain ⟨l, r, h1, h2⟩ := levels_cons c s h
      rw [h2]; rw [h1] at ih
      cases r with
      | nil => simp only [join] at ih ⊢; rw [ih]
      | cons a b => rw [join_cons _ _ (by simp)] at ih ⊢; rw [← ih]; rfl

/-- no level has a slash -/
def noSl (x : T) : Prop := ∀ c ∈ x, c ≠ 47

theorem levels_one (x : T) (h : noSl x) : levels x = [x] := by
  induction x with
  | nil => rfl
  | cons c x ih =>
    have hc : c ≠ 47 := h c (by simp)
    obtain ⟨l, r, h1, h2⟩ := levels_cons c x hc
    rw [ih (fun d hd => h d (by simp [hd]))] at h1
    simp only [List.cons.injEq] at h1
    rw [h2, ← h1.1, ← h1.2]

/-! texts: bytes that are UTF-8 without a zero -/
def more (a : UInt8) : Option (Nat × UInt8 × UInt8) :=
  if a < 0x80 then some (0, 0, 0)
  else if 0xC2 ≤ a ∧ a ≤ 0xDF then some (1, 0x80, 0xBF)
  else if a = 0xE0 then some (2, 0xA0, 0xBF)
  else if a = 0xED then some (2, 0x80, 0x9F)
  else if 0xE1 ≤ a ∧ a ≤ 0xEF then some (2, 0x80, 0xBF)
  else if a = 0xF0 then some (3, 0x90, 0xBF)
  else if 0xF1 ≤ a ∧ a ≤ 0xF3 then some (3, 0x80, 0xBF)
  else if a = 0xF4 then some (3, 0x80, 0x8F)
  else none

def conts : Nat → UInt8 → UInt8 → T → Bool
  | 0, _, _, _ => true
  | _ + 1, _, _, [] => false
  | n + 1, lo, hi, c :: r => decide (lo ≤ c) && decide (c ≤ hi) && conts n 0x80 0xBF r

def okB : T → Bool
  | [] => true
  | a :: r => if a = 0 then false else
    match more a with
    | none => false
    | some (n, lo, hi) => conts n lo hi r && okB (r.drop n)
termination_by s => s.length
decreasing_by simp; omega

theorem okB_nil : okB [] = true := by unfold okB; rfl
theorem okB_cons (a : UInt8) (r : T) : okB (a :: r) = if a = 0 then false else
    match more a with
    | none => false
    | some (n, lo, hi) => conts n lo hi r && okB (r.drop n) := by rw [okB]
theorem okB_ascii (a : UInt8) (r : T) (h0 : a ≠ 0) (h : a < 0x80) : okB (a :: r) = okB r := by
  rw [okB_cons, if_neg h0]; simp [more, h, conts]

theorem conts_len (n : Nat) : ∀ (lo hi : UInt8) (x : T), conts n lo hi x = true → n ≤ x.length := by
  induction n with
  | zero => intros; omega
  | succ n ih =>
    intro lo hi x h
    cases x with
    | nil => simp [conts] at h
    | cons c x => simp only [conts, Bool.and_eq_true] at h; have := ih _ _ _ h.2; simp; omega

end Cr

/- Topics and filters; matching; a topic that two filters match. -/
namespace Cr

abbrev P : T := [43]
abbrev H : T := [35]
def share : T := [36, 115, 104, 97, 114, 101]
def sg (x : T) : Bool := x == P || x == H
def dol (x : T) : Bool := x.head? == some 36
def wildIn (x : T) : Bool := x.any fun c => c == 43 || c == 35

/-- a text: not too long, and UTF-8 without a zero -/
def isText (s : T) : Bool := decide (s.length ≤ 65535) && okB s
def isTopic (s : T) : Bool := !s.isEmpty && isText s && !wildIn s
/-- levels as a filter may have them -/
def okF : List T → Bool
  | [] => true
  | x :: r => (!wildIn x || decide (x.length ≤ 1)) && (!(x == H) || r.isEmpty) && okF r
def isFilter (s : T) : Bool := !s.isEmpty && isText s && okF (levels s)
def shared (s : T) : Option (T × T) :=
  match levels s with
  | a :: b :: c :: r => if a = share ∧ isTopic b = true ∧ isFilter (join (c :: r)) = true ∧ isFilter s = true then some (b, join (c :: r)) else none
  | _ => none
def plain (s : T) : Bool := isFilter s && (shared s).isNone

def goes : List T → List T → Bool
  | [], t => t.isEmpty
  | x :: f, t => if x = H then true else
    match t with
    | [] => false
    | y :: t => if x ≠ P ∧ x ≠ y then false else goes f t
def fst (l : List T) : T := l.headD []
def mt (f t : T) : Bool := plain f && isTopic t && !(t.head? == some 36 && sg (fst (levels f))) && goes (levels f) (levels t)

def lv (x : T) : T := if x = P then [] else x
def least : List T → List T
  | [] => []
  | x :: r => if x = H then [] else lv x :: least r

def walk : List T → List T → Option (List T)
  | [], [] => some []
  | [], y :: _ => if y = H then some [] else none
  | x :: _, [] => if x = H then some [] else none
  | x :: a, y :: b =>
    if x = H then some (least (y :: b))
    else if y = H then some (least (x :: a))
    else if x = P then (walk a b).map (lv y :: ·)
    else if y = P ∨ x = y then (walk a b).map (x :: ·)
    else none

/-- the topic of levels, if it is one (told) -/
def told (l : List T) (free : Bool) (fs : List T) : Option T :=
  if l = [] ∨ l = [[]] then
    if free then some [97] else if fs.all (fun f => mt f [47]) then some [47] else none
  else if (join l).length ≤ 65535 then some (join l) else none

def meet (f g : T) : Option T :=
  if plain f ∧ plain g then
    let a := levels f
    let b := levels g
    if (sg (fst a) && dol (fst b)) || (sg (fst b) && dol (fst a)) then none
    else match walk a b with
      | none => none
      | some o => told o (sg (fst a) && sg (fst b)) [f, g]
  else none

/-! small things -/
theorem okF_cons {x : T} {r : List T} (h : okF (x :: r) = true) : okF r = true := by simp [okF] at h; exact h.2
theorem okF_hash {x : T} {r : List T} (h : okF (x :: r) = true) (hx : x = H) : r = [] := by
  simp only [okF, Bool.and_eq_true, Bool.or_eq_true, Bool.not_eq_true'] at h
  rcases h.1.2 with h | h
  · simp [hx] at h
  · simpa using h
/-- pointwise: nothing, or the same -/
def le : List T → List T → Prop
  | [], _ => True
  | _ :: _, [] => False
  | x :: o, y :: t => (x = [] ∨ x = y) ∧ le o t

theorem goes_cons (x y : T) (a t : List T) (hx : x ≠ H) : goes (x :: a) (y :: t) = (decide (x = P ∨ x = y) && goes a t) := by
  rw [goes, if_neg hx]
  by_cases h : x ≠ P ∧ x ≠ y
  · rw [if_pos h]; simp [h.1, h.2]
  · rw [if_neg h]
    have : x = P ∨ x = y := by
      by_cases h1 : x = P
      · exact .inl h1
      · exact .inr (Classical.byContradiction fun h2 => h ⟨h1, h2⟩)
    simp [this]
theorem goes_hash (a t : List T) : goes (H :: a) t = true := by cases t <;> rw [goes, if_pos rfl]
/-! what levels of topics and filters are -/
/-- good: levels of a topic: texts without slash and sign -/
def good (x : T) : Prop := noSl x ∧ okB x = true ∧ wildIn x = false
end Cr

namespace Cr

end Cr

namespace Cr

def other (y : T) : T := if y = [] then [97] else []
def nxt : List T → List T
  | [] => []
  | x :: r => if x = H then [H] else r
def leaves (f : T) (own ra : List T) (y : Option T) (level : T) (free : Bool) : Option T :=
  told (if own ++ level :: least (nxt ra) = [[]] ∧ free = true then (if y = some [97] then [[98]] else [[97]]) else own ++ level :: least (nxt ra)) false [f]

/-- may a topic of f end here, where g's go on? -/
def endsHere (own ra : List T) (s0 : Bool) (y : T) : Option T :=
  if own ≠ [] ∧ (ra = [] ∨ ra = [H]) ∧ y ≠ H then told own s0 [[]] else none

def osearch (f : T) (s0 : Bool) : List T → List T → List T → Option T
  | [], ra, own =>
    match ra with
    | [] => none
    | x :: _ => leaves f own ra none (if sg x then [] else x) (sg x)
  | y :: b, ra, own =>
    match endsHere own ra s0 y with
    | some s => some s
    | none =>
      match ra with
      | [] => none
      | x :: _ =>
        if y = H then none
        else if y = P then osearch f s0 b (nxt ra) (own ++ [if sg x then [] else x])
        else if sg x then
          match leaves f own ra (some y) (other y) true with
          | some s => some s
          | none => if own = [] ∧ dol y = true then none else osearch f s0 b (nxt ra) (own ++ [y])
        else if x = y then osearch f s0 b (nxt ra) (own ++ [x])
        else leaves f own ra (some y) x false

def outside (f g : T) : Option T :=
  if plain f then
    if plain g = false ∨ (sg (fst (levels g)) = true ∧ dol (fst (levels f)) = true) then told (least (levels f)) (sg (fst (levels f))) [f]
    else osearch f (sg (fst (levels f))) (levels g) (levels f) []
  else none
def within (f g : T) : Bool := (outside f g).isNone

/-- a filter's levels, and where the search stands -/
structure At (A B own ra b : List T) : Prop where
  fa : okF ra = true
  fb : okF b = true
  ta : ∀ x ∈ ra, noSl x ∧ okB x = true
  tb : ∀ x ∈ b, noSl x ∧ okB x = true
  go : ∀ x ∈ own, good x
  ga : ∀ t, goes A (own ++ t) = goes ra t
  gb : ∀ t, goes B (own ++ t) = goes b t
  ds : sg (fst A) = true → dol (fst own) = false
  zero : own = [] → ra = A ∧ b = B

theorem nxt_okF {ra : List T} (h : okF ra = true) : okF (nxt ra) = true := by
  cases ra with
  | nil => rfl
  | cons x r =>
    by_cases hx : x = H
    · simp only [nxt, hx, if_true]; decide
    · simp only [nxt, hx, if_false]; exact okF_cons h
theorem hash_text : noSl H ∧ okB H = true := ⟨by intro c hc; simp [H] at hc; subst hc; decide, by show okB [35] = true; rw [okB_ascii _ _ (by decide) (by decide), okB_nil]⟩
theorem nxt_text {ra : List T} (h : ∀ x ∈ ra, noSl x ∧ okB x = true) : ∀ x ∈ nxt ra, noSl x ∧ okB x = true := by
  cases ra with
  | nil => simp [nxt]
  | cons x r =>
    by_cases hx : x = H
    · simp only [nxt, hx, if_true]; intro y hy; rw [List.mem_singleton] at hy; subst hy; exact hash_text
    · simp only [nxt, hx, if_false]; intro y hy; exact h y (by simp [hy])
theorem goes_nxt {x : T} {r : List T} (z : T) (t : List T) (hr : okF (x :: r) = true) (h : x = H ∨ x = P ∨ x = z) : goes (x :: r) (z :: t) = goes (nxt (x :: r)) t := by
  by_cases hx : x = H
  · subst hx
    have := okF_hash hr rfl
    simp only [nxt, if_true]
    rw [goes_hash, goes_hash]
  · simp only [nxt, hx, if_false]
    rw [goes_cons _ _ _ _ hx]
    have : x = P ∨ x = z := h.resolve_left hx
    simp [this]
theorem fst_append (own t : List T) (h : own ≠ []) : fst (own ++ t) = fst own := by
  cases own with
  | nil => exact absurd rfl h
  | cons a b => rfl

/-- The search goes on by one level. -/
theorem At.step {A B own b : List T} {x y lev : T} {r : List T} (h : At A B own (x :: r) (y :: b)) (hx : x = H ∨ x = P ∨ x = lev) (hy : y ≠ H) (hl : y = P ∨ y = lev) (hg : good lev)
    (hd : own = [] → sg (fst A) = true → dol lev = false) : At A B (own ++ [lev]) (nxt (x :: r)) b where
  fa := nxt_okF h.fa
  fb := okF_cons h.fb
  ta := nxt_text h.ta
  tb := fun z hz => h.tb z (by simp [hz])
  go := fun z hz => by
    rcases List.mem_append.1 hz with hz | hz
    · exact h.go z hz
    · rw [List.mem_singleton] at hz; subst hz; exact hg
  ga := fun t => by rw [List.append_assoc, h.ga, List.singleton_append, goes_nxt lev t h.fa hx]
  gb := fun t => by
    rw [List.append_assoc, h.gb, List.singleton_append, goes_cons _ _ _ _ hy]
    simp [hl]
  ds := fun hs => by
    by_cases ho : own = []
    · subst ho; exact hd rfl hs
    · rw [fst_append _ _ ho]; exact h.ds hs
  zero := fun e => by simp at e

end Cr

namespace Cr

/-- pointwise no longer, and as many -/
def leL : List T → List T → Prop
  | [], [] => True
  | x :: o, y :: t => x.length ≤ y.length ∧ leL o t
  | _, _ => False

/-- pointwise no longer, of a beginning -/
def leP : List T → List T → Prop
  | [], _ => True
  | x :: o, y :: t => x.length ≤ y.length ∧ leP o t
  | _ :: _, [] => False
end Cr
