/- What the printed crierref6.Meet tells: Cr.meetOk. -/
import Derived.Test.YtamelcgamlcliaaRc
import Derived.Test.YtamelcgamlcliaaLCoverTwox6
namespace Go.Proofs.Ytamelcgamlcliaa.Giv
open Go.RowKit Go.Proofs.YtamelcgamlcliaaW.PrintWords Go.Proofs.YtamelcgamlcliaaW.PrintLast Go.Proofs.YtamelcgamlcliaaW.PrintMore Go.Proofs.Ytamelcgamlcliaa.MCoverTopics Go.Proofs.Ytamelcgamlcliaa.LCoverTwo
set_option linter.unusedVariables false
set_option linter.unusedSimpArgs false

theorem mx_nat (a b : Nat) : mx (a : Int) (b : Int) = ((max a b : Nat) : Int) := by
 unfold mx
 split <;> omega
theorem wt_lv : ∀ l : List Cr.T, wt (l.map Cr.lv) ≤ wt l
 | [] => Nat.le_refl _
 | a :: l => by
  have h1 := wt_lv l
  have h2 : (Cr.lv a).length ≤ a.length := by unfold Cr.lv; split <;> simp
  show (Cr.lv a).length + 1 + wt (l.map Cr.lv) ≤ a.length + 1 + wt l
  omega
theorem wt_rep : ∀ n : Nat, wt (List.replicate n ([] : Cr.T)) = n
 | 0 => rfl
 | n + 1 => by
  show 0 + 1 + wt (List.replicate n ([] : Cr.T)) = n + 1
  rw [wt_rep n]; omega
theorem wt_fill (l : List Cr.T) (n : Nat) : wt (Cr.fill l n) ≤ wt l + n := by
 unfold Cr.fill
 rw [wt_append, wt_rep]
 have := wt_lv l
 omega
theorem wt_alive (l : List Cr.T) (no : Cr.T) : wt (Cr.alive l no) ≤ wt l + 2 := by
 unfold Cr.alive
 split
 ·split <;> simp [wt]
 ·omega
theorem wt_opn (L : List Cr.T) : wt (Cr.opn L).1 ≤ wt L := by
 unfold Cr.opn
 split
 ·rename_i h
  have hne : L ≠ [] := by intro e; rw [e] at h; simp at h
  have h2 := wt_append L.dropLast [L.getLast hne]
  rw [List.dropLast_concat_getLast hne] at h2
  show wt L.dropLast ≤ wt L
  omega
 ·exact Nat.le_refl _
theorem wt_set (l : List Cr.T) : ∀ (i : Nat) (c : Cr.T), wt (l.set i c) ≤ wt l + c.length := by
 induction l with
 | nil => intro i c; simp [wt]
 | cons a l ih =>
  intro i c
  cases i with
  | zero => show c.length + 1 + wt l ≤ a.length + 1 + wt l + c.length; omega
  | succ i =>
   have := ih i c
   show a.length + 1 + wt (l.set i c) ≤ a.length + 1 + wt l + c.length
   omega
theorem LL_set (l : List ByteArray) (i : Nat) (c : ByteArray) : LL (l.set i c) = (LL l).set i (Cr.bl c) := by simp [LL, List.map_set]

/-! Meet -/
def E (F G : Cr.T) (o p : Bool) (l : List Cr.T) : Bool := Cr.com (Cr.alive (Cr.fill l 1) []) F G || (o && p && Cr.com (Cr.fill l 2) F G)
theorem rMeet_j4 (f g : ByteArray) (hf : f.size ≤ 1000000) (hg : g.size ≤ 1000000) (acc : List ByteArray) (hw : wt (LL acc) ≤ 900000) (t : ByteArray) (ok c : Bool) (k : Nat) (hk : 40000000 < k) :
  ∃ t2, crierref6_Meet.j4 k f g acc t ok c = some (t2, if c = true then Cr.com (Cr.fill (LL acc) 2) (Cr.bl f) (Cr.bl g) else ok) := by
 obtain ⟨k, rfl⟩ : ∃ m, k = m + 1 := ⟨k - 1, by omega⟩
 have hl := wt_len (LL acc)
 rw [LL_len] at hl
 rw [crierref6_Meet.j4]
 cases c with
 | false => rw [if_neg (by decide), if_neg (by decide)]; exact ⟨_, rfl⟩
 | true =>
  obtain ⟨r, h1, h2, h3⟩ := rfill acc 2 (by omega) (by omega) k (by omega)
  have h1 : crierref6_fill.f k acc 2 = some r := h1
  rw [if_pos rfl, if_pos rfl, h1]
  simp only [Option.bind_some]
  have h4 := wt_fill (LL acc) 2
  rw [rcommon r f g (by rw [h2]; omega) hf hg (by omega) k (by omega), h2]
  simp only [Option.bind_some]
  cases Cr.com (Cr.fill (LL acc) 2) (Cr.bl f) (Cr.bl g) with
  | true => exact ⟨_, rfl⟩
  | false => exact ⟨_, rfl⟩
theorem bth_P1 (a : Cr.T) : Cr.bth a Cr.P = some a := by
 unfold Cr.bth
 by_cases h : a = Cr.P
 ·rw [if_pos h, h]
 ·rw [if_neg h, if_pos (.inl rfl)]
theorem bth_P2 (b : Cr.T) : Cr.bth Cr.P b = some b := by unfold Cr.bth; rw [if_pos rfl]
theorem bth_len {a b c : Cr.T} (h : Cr.bth a b = some c) : c.length ≤ a.length + b.length := by
 unfold Cr.bth at h
 split at h
 ·obtain rfl := Option.some.inj h; omega
 ·split at h
  ·obtain rfl := Option.some.inj h; omega
  ·cases h

theorem rMeet_l0 (f g : ByteArray) (hf : f.size ≤ 1000000) (hg : g.size ≤ 1000000) (x y : List ByteArray) (o p : Bool) (hx : x.length ≤ 200000) (hy : y.length ≤ 200000) (M : Nat) (hmx : mx (x.length : Int) (y.length : Int) = (M : Int)) (hxM : x.length ≤ M) (hyM : y.length ≤ M) (hMo : M = x.length ∨ M = y.length) :
  ∀ (d i k : Nat) (acc : List ByteArray), M - i = d → i ≤ M → acc.length = i → wt (LL acc) + wt (LL (x.drop i)) + wt (LL (y.drop i)) ≤ 800000 → 40000010 + 2 * d < k →
   ∃ t, crierref6_Meet.l0 k f g x o y p acc (i : Int) = some (t, match Cr.zipB (LL (x.drop i)) (LL (y.drop i)) with | none => false | some l => E (Cr.bl f) (Cr.bl g) o p (LL acc ++ l)) := by
 intro d
 induction d with
 | zero =>
  intro i k acc hd hi ha hw hk
  obtain ⟨k, rfl⟩ : ∃ m, k = m + 1 := ⟨k - 1, by omega⟩
  rw [crierref6_Meet.l0, hmx, if_neg (by omega)]
  have ex : LL (x.drop i) = [] := by rw [List.drop_eq_nil_of_le (by omega)]; rfl
  have ey : LL (y.drop i) = [] := by rw [List.drop_eq_nil_of_le (by omega)]; rfl
  rw [ex, ey, show Cr.zipB [] [] = some [] by rw [Cr.zipB]]
  simp only [List.append_nil]
  have hl := wt_len (LL acc)
  rw [LL_len] at hl
  obtain ⟨r, h1, h2, h3⟩ := rfill acc 1 (by omega) (by omega) k (by omega)
  have h1 : crierref6_fill.f k acc 1 = some r := h1
  rw [h1]
  simp only [Option.bind_some]
  obtain ⟨r2, h4, h5, h6⟩ := ralive r ⟨#[]⟩ k (by omega)
  rw [h4]
  simp only [Option.bind_some]
  have h7 := wt_fill (LL acc) 1
  have h8 := wt_alive (LL r) (Cr.bl ⟨#[]⟩)
  rw [h2] at h8 h5
  rw [rcommon r2 f g (by rw [h5]; omega) hf hg (by omega) k (by omega), h5]
  simp only [Option.bind_some]
  have e0 : Cr.bl (⟨#[]⟩ : ByteArray) = [] := rfl
  rw [e0]
  have hw9 : wt (LL acc) ≤ 900000 := by omega
  unfold E
  cases hc : Cr.com (Cr.alive (Cr.fill (LL acc) 1) []) (Cr.bl f) (Cr.bl g) with
  | true =>
   obtain ⟨t2, h9⟩ := rMeet_j4 f g hf hg acc hw9 (joinB r2) true false k (by omega)
   refine ⟨t2, ?_⟩
   rw [if_pos rfl, if_pos rfl]
   exact h9
  | false =>
   simp only [Bool.false_eq_true, if_false]
   cases o with
   | true =>
    obtain ⟨t2, h9⟩ := rMeet_j4 f g hf hg acc hw9 ⟨#[]⟩ false p k (by omega)
    refine ⟨t2, ?_⟩
    rw [if_pos rfl]
    refine h9.trans ?_
    cases p <;> rfl
   | false =>
    obtain ⟨t2, h9⟩ := rMeet_j4 f g hf hg acc hw9 ⟨#[]⟩ false false k (by omega)
    refine ⟨t2, ?_⟩
    rw [if_neg (by decide)]
    exact h9
 | succ d ih =>
  intro i k acc hd hi ha hw hk
  obtain ⟨k, rfl⟩ : ∃ m, k = m + 2 := ⟨k - 2, by omega⟩
  have hwr : Unit → wrap64 ((i : Int) + 1) = ((i + 1 : Nat) : Int) := fun _ => wrap_n (n := 1000000) (by omega) (by omega)
  rw [show k + 2 = (k + 1) + 1 from rfl, crierref6_Meet.l0, hmx, if_pos (by omega)]
  have nx : ∀ (c : ByteArray) (xs ys : List Cr.T), xs = LL (x.drop (i + 1)) → ys = LL (y.drop (i + 1)) → wt (LL acc) + ((Cr.bl c).length + 1) + wt xs + wt ys ≤ 800000 →
    ∃ t, crierref6_Meet.l0 k f g x o y p (acc ++ [c]) ((i + 1 : Nat) : Int) = some (t, match (match Cr.zipB xs ys with | none => none | some l => some (Cr.bl c :: l)) with | none => false | some l => E (Cr.bl f) (Cr.bl g) o p (LL acc ++ l)) := by
   intro c xs ys e1 e2 h
   subst e1; subst e2
   have hap : LL (acc ++ [c]) = LL acc ++ [Cr.bl c] := by simp [LL]
   have hwc : wt (LL (acc ++ [c])) = wt (LL acc) + ((Cr.bl c).length + 1) := by rw [hap, wt_append]; rfl
   obtain ⟨t, ht⟩ := ih (i + 1) k (acc ++ [c]) (by omega) (by omega) (by simp; omega) (by omega) (by omega)
   refine ⟨t, ht.trans ?_⟩
   rw [hap]
   cases Cr.zipB (LL (x.drop (i + 1))) (LL (y.drop (i + 1))) with
   | none => rfl
   | some l => simp only [List.append_assoc, List.singleton_append]
  have none2 : ∀ (z : Option Cr.T), z = none → True := fun _ _ => trivial
  by_cases hxi : i < x.length
  ·have dx : LL (x.drop i) = Cr.bl x[i] :: LL (x.drop (i + 1)) := by rw [List.drop_eq_getElem_cons hxi]; rfl
   have wx : wt (LL (x.drop i)) = (Cr.bl x[i]).length + 1 + wt (LL (x.drop (i + 1))) := by rw [dx]; rfl
   rw [if_pos (by omega), if_pos (by omega), rd_at x i hxi, crierref6_Meet.j3, hwr ()]
   by_cases hyi : i < y.length
   ·have dy : LL (y.drop i) = Cr.bl y[i] :: LL (y.drop (i + 1)) := by rw [List.drop_eq_getElem_cons hyi]; rfl
    have wy : wt (LL (y.drop i)) = (Cr.bl y[i]).length + 1 + wt (LL (y.drop (i + 1))) := by rw [dy]; rfl
    rw [if_pos (by omega), if_pos (by omega), rd_at y i hyi, dx, dy, Cr.zipB]
    obtain ⟨c, ok, h1, h2⟩ := rboth x[i] y[i]
    rw [h1, h2]
    simp only [Option.bind_some]
    cases ok with
    | false => rw [if_neg (by decide), if_neg (by decide)]; exact ⟨_, rfl⟩
    | true =>
     rw [if_pos rfl] at h2
     have hlen := bth_len h2
     rw [if_pos rfl, if_pos (by omega), if_pos rfl]
     exact nx c _ _ rfl rfl (by omega)
   ·have ey : LL (y.drop i) = [] := by rw [List.drop_eq_nil_of_le (by omega)]; rfl
    have ey2 : LL (y.drop (i + 1)) = [] := by rw [List.drop_eq_nil_of_le (by omega)]; rfl
    rw [if_neg (by omega), dx, ey, Cr.zipB]
    obtain ⟨c, ok, h1, h2⟩ := rboth x[i] ⟨#[43]⟩
    rw [show Cr.bl (⟨#[43]⟩ : ByteArray) = Cr.P from rfl, bth_P1] at h2
    cases ok with
    | false => rw [if_neg (by decide)] at h2; cases h2
    | true =>
     rw [if_pos rfl] at h2
     have h2 : Cr.bl x[i] = Cr.bl c := Option.some.inj h2
     rw [h1]
     simp only [Option.bind_some]
     rw [if_pos trivial, if_pos (by omega), h2]
     refine nx c _ _ rfl ey2.symm ?_
     have : wt ([] : List Cr.T) = 0 := rfl
     rw [← h2]; omega
  ·have hyi : i < y.length := by omega
   have dy : LL (y.drop i) = Cr.bl y[i] :: LL (y.drop (i + 1)) := by rw [List.drop_eq_getElem_cons hyi]; rfl
   have wy : wt (LL (y.drop i)) = (Cr.bl y[i]).length + 1 + wt (LL (y.drop (i + 1))) := by rw [dy]; rfl
   have ex : LL (x.drop i) = [] := by rw [List.drop_eq_nil_of_le (by omega)]; rfl
   have ex2 : LL (x.drop (i + 1)) = [] := by rw [List.drop_eq_nil_of_le (by omega)]; rfl
   rw [if_neg (by omega), crierref6_Meet.j3, hwr (), if_pos (by omega), if_pos (by omega), rd_at y i hyi, ex, dy, Cr.zipB]
   obtain ⟨c, ok, h1, h2⟩ := rboth ⟨#[43]⟩ y[i]
   rw [show Cr.bl (⟨#[43]⟩ : ByteArray) = Cr.P from rfl, bth_P2] at h2
   cases ok with
   | false => rw [if_neg (by decide)] at h2; cases h2
   | true =>
    rw [if_pos rfl] at h2
    have h2 : Cr.bl y[i] = Cr.bl c := Option.some.inj h2
    rw [h1]
    simp only [Option.bind_some]
    rw [if_pos trivial, if_pos (by omega), h2]
    refine nx c _ _ ex2.symm rfl ?_
    have : wt ([] : List Cr.T) = 0 := rfl
    rw [← h2]; omega

theorem rMeet (f g : ByteArray) (hf : f.size ≤ 140000) (hg : g.size ≤ 140000) (k : Nat) (hk : 50000000 < k) : ∃ t, crierref6_Meet.f k f g = some (t, (Cr.meet (Cr.bl f) (Cr.bl g)).isSome) := by
 rw [← Cr.meet_ref]
 unfold crierref6_Meet.f Cr.meetOk
 rw [rPlain f (by omega) k (by omega), rPlain g (by omega) k (by omega)]
 simp only [Option.bind_some]
 obtain ⟨k, rfl⟩ : ∃ m, k = m + 2 := ⟨k - 2, by omega⟩
 rw [show k + 2 = (k + 1) + 1 from rfl]
 cases hp : Cr.plain (Cr.bl f) with
 | false => rw [if_neg (by decide), crierref6_Meet.j0, if_pos rfl]; exact ⟨_, rfl⟩
 | true =>
  rw [if_pos rfl]
  cases hq : Cr.plain (Cr.bl g) with
  | false => rw [show (!false) = true from rfl, crierref6_Meet.j0, if_pos rfl]; exact ⟨_, rfl⟩
  | true =>
   obtain ⟨x, hx1, hx2, hx3⟩ := ropen f (by omega) (k + 1) (by omega)
   obtain ⟨y, hy1, hy2, hy3⟩ := ropen g (by omega) (k + 1) (by omega)
   have lx := levelsB_len f
   have ly := levelsB_len g
   have wx : wt (LL x) ≤ f.size + 1 := by
    rw [hx2]
    have := wt_opn (Cr.levels (Cr.bl f))
    rw [wt_levels, Cr.bl_len] at this; exact this
   have wy : wt (LL y) ≤ g.size + 1 := by
    rw [hy2]
    have := wt_opn (Cr.levels (Cr.bl g))
    rw [wt_levels, Cr.bl_len] at this; exact this
   rw [show (!true) = false from rfl, crierref6_Meet.j0, if_neg (by decide), hx1, hy1]
   simp only [Option.bind_some]
   rw [← hx2, ← hy2, LL_len, LL_len]
   generalize (Cr.opn (Cr.levels (Cr.bl f))).2 = o
   generalize (Cr.opn (Cr.levels (Cr.bl g))).2 = p
   have j1 : ∀ c : Bool, ∃ t, crierref6_Meet.j1 (k + 1) f g x o y p c = some (t, !c && (match Cr.zipB (LL x) (LL y) with | none => false | some l => Cr.com (Cr.alive (Cr.fill l 1) []) (Cr.bl f) (Cr.bl g) || (o && p && Cr.com (Cr.fill l 2) (Cr.bl f) (Cr.bl g)))) := by
    intro c
    rw [crierref6_Meet.j1]
    cases c with
    | true => rw [if_pos rfl]; exact ⟨_, rfl⟩
    | false =>
     rw [if_neg (by decide)]
     obtain ⟨t, ht⟩ := rMeet_l0 f g (by omega) (by omega) x y o p (by omega) (by omega) (max x.length y.length) (mx_nat _ _) (by omega) (by omega) (by omega) (max x.length y.length) 0 k [] (by omega) (by omega) rfl (by rw [List.drop_zero, List.drop_zero]; show 0 + _ + _ ≤ _; omega) (by omega)
     refine ⟨t, ht.trans ?_⟩
     rw [List.drop_zero, List.drop_zero]
     cases Cr.zipB (LL x) (LL y) <;> rfl
   by_cases h1 : x.length < y.length
   ·have h2 : ¬ y.length < x.length := by omega
    rw [if_pos (show (x.length : Int) < (y.length : Int) by omega), if_neg (show ¬ (y.length : Int) < (x.length : Int) by omega), decide_eq_true h1, decide_eq_false h2]
    cases o with
    | true =>
     rw [if_pos rfl]
     obtain ⟨t, ht⟩ := j1 false
     exact ⟨t, ht⟩
    | false =>
     rw [if_neg (by decide)]
     obtain ⟨t, ht⟩ := j1 true
     exact ⟨t, ht⟩
   ·rw [if_neg (show ¬ (x.length : Int) < (y.length : Int) by omega), decide_eq_false h1]
    by_cases h2 : y.length < x.length
    ·rw [if_pos (show (y.length : Int) < (x.length : Int) by omega), decide_eq_true h2]
     obtain ⟨t, ht⟩ := j1 (!p)
     exact ⟨t, ht⟩
    ·rw [if_neg (show ¬ (y.length : Int) < (x.length : Int) by omega), decide_eq_false h2]
     obtain ⟨t, ht⟩ := j1 false
     exact ⟨t, ht⟩

end Go.Proofs.Ytamelcgamlcliaa.Giv
