/- What the printed crierref6.Outside tells: Cr.outOk. -/
import Derived.Test.YtamelcgamlcliaaRd
import Derived.Test.YtamelcgamlcliaaLCoverTwox8
namespace Go.Proofs.Ytamelcgamlcliaa.Giv
open Go.RowKit Go.Proofs.YtamelcgamlcliaaW.PrintWords Go.Proofs.YtamelcgamlcliaaW.PrintLast Go.Proofs.YtamelcgamlcliaaW.PrintMore Go.Proofs.Ytamelcgamlcliaa.MCoverTopics Go.Proofs.Ytamelcgamlcliaa.LCoverTwo
set_option linter.unusedVariables false
set_option linter.unusedSimpArgs false

/-! Outside -/
def anyF (p : Nat → Bool) : Nat → Nat → Bool
 | _, 0 => false
 | i, d + 1 => p i || anyF p (i + 1) d
theorem anyF_iff (p : Nat → Bool) : ∀ (d i : Nat), anyF p i d = true ↔ ∃ j, i ≤ j ∧ j < i + d ∧ p j = true
 | 0, i => by
  constructor
  ·intro h; simp [anyF] at h
  ·rintro ⟨j, h1, h2, _⟩; omega
 | d + 1, i => by
  rw [anyF, Bool.or_eq_true, anyF_iff p d (i + 1)]
  constructor
  ·rintro (h | ⟨j, h1, h2, h3⟩)
   ·exact ⟨i, Nat.le_refl _, by omega, h⟩
   ·exact ⟨j, by omega, by omega, h3⟩
  ·rintro ⟨j, h1, h2, h3⟩
   by_cases hj : j = i
   ·subst hj; exact .inl h3
   ·exact .inr ⟨j, by omega, by omega, h3⟩

section
variable (f g : ByteArray) (hf : f.size ≤ 140000) (hg : g.size ≤ 140000) (x y : List ByteArray) (o : Bool) (m : Nat) (hx : x.length ≤ 200000) (hy : y.length ≤ 200000) (hm : m ≤ 200000) (hw : wt (LL x) ≤ 200000)
include hf hg hx hy hm hw

theorem rOut_l1 (hxm : x.length ≤ m) : ∀ (d i k : Nat), y.length - i = d → i ≤ y.length → 40000010 + 3 * d < k →
  ∃ t, crierref6_Outside.l1 k f g x o (m : Int) y (i : Int) = some (t, anyF (fun i => Cr.spot (LL x) (LL y) o i && Cr.shw ((Cr.fill (LL x) (max m (i + 1))).set i [97]) (Cr.bl f) (Cr.bl g)) i d) := by
 intro d
 induction d with
 | zero =>
  intro i k hd hi hk
  obtain ⟨k, rfl⟩ : ∃ m, k = m + 1 := ⟨k - 1, by omega⟩
  rw [crierref6_Outside.l1, if_neg (by omega)]
  exact ⟨_, rfl⟩
 | succ d ih =>
  intro i k hd hi hk
  obtain ⟨k, rfl⟩ : ∃ m, k = m + 2 := ⟨k - 2, by omega⟩
  have hyi : i < y.length := by omega
  have hwr : Unit → wrap64 ((i : Int) + 1) = ((i + 1 : Nat) : Int) := fun _ => wrap_n (n := 1000000) (by omega) (by omega)
  obtain ⟨t0, ht0⟩ := ih (i + 1) k (by omega) (by omega) (by omega)
  have j4 : ∀ b : Bool, Cr.spot (LL x) (LL y) o i = !b → ∃ t, crierref6_Outside.j4 (k + 1) f g x o (m : Int) y (i : Int) b = some (t, anyF (fun i => Cr.spot (LL x) (LL y) o i && Cr.shw ((Cr.fill (LL x) (max m (i + 1))).set i [97]) (Cr.bl f) (Cr.bl g)) i (d + 1)) := by
   intro b hb
   rw [crierref6_Outside.j4, anyF, hb, hwr ()]
   cases b with
   | true => rw [if_pos rfl]; exact ⟨t0, ht0⟩
   | false =>
    rw [if_neg (by decide), mx_nat]
    obtain ⟨q, hq, hq1, hq2, hq3⟩ : ∃ q, max m (i + 1) = q ∧ m ≤ q ∧ i + 1 ≤ q ∧ q ≤ m + i + 1 := ⟨_, rfl, Nat.le_max_left _ _, Nat.le_max_right _ _, by omega⟩
    rw [hq]
    clear hq
    obtain ⟨r, h1, h2, h3⟩ := rfill x q (by omega) (by omega) k (by omega)
    rw [h1]
    simp only [Option.bind_some]
    have h4 := wt_fill (LL x) q
    have h5 := wt_set (LL r) i [97]
    have h6 : LL (r.set i (⟨#[97]⟩ : ByteArray)) = (Cr.fill (LL x) q).set i [97] := by rw [LL_set, h2]
    have h8 : q ≤ r.length := by rw [h3]; exact Nat.le_max_right _ _
    have h9 : r.length ≤ 1000000 := by rw [h3]; exact Nat.max_le.2 ⟨by omega, by omega⟩
    clear h3
    rw [h2] at h5
    have h7 : ([97] : Cr.T).length = 1 := rfl
    rw [if_pos (by omega), if_pos (by omega), Int.toNat_natCast, rshows (r.set i (⟨#[97]⟩ : ByteArray)) f g (by rw [h6]; omega) (by omega) (by omega) (by rw [List.length_set]; omega) k (by omega), h6]
    simp only [Option.bind_some]
    cases Cr.shw ((Cr.fill (LL x) q).set i [97]) (Cr.bl f) (Cr.bl g) with
    | true => rw [if_pos rfl, if_pos rfl]; exact ⟨_, rfl⟩
    | false => simp only [Bool.false_eq_true, if_false]; exact ⟨t0, ht0⟩
  have gy : (LL y).getD i [] = Cr.bl y[i] := by
   unfold LL
   rw [List.getD_eq_getElem?_getD, List.getElem?_map, List.getElem?_eq_getElem hyi]; rfl
  have hne : (y[i].toList != ([] : List UInt8)) = (Cr.bl y[i] != []) := by rw [tl]
  rw [show k + 2 = (k + 1) + 1 from rfl, crierref6_Outside.l1, if_pos (by omega), rd_at y i hyi, hne]
  by_cases hxi : i < x.length
  ·have gx : (LL x).getD i [] = Cr.bl x[i] := by
    unfold LL
    rw [List.getD_eq_getElem?_getD, List.getElem?_map, List.getElem?_eq_getElem hxi]; rfl
   rw [if_pos (by omega), if_pos (by omega), rd_at x i hxi, tl]
   by_cases hP : Cr.bl x[i] = Cr.P
   ·rw [if_pos (show Cr.bl x[i] = ([43] : List UInt8) from hP), if_neg (by omega)]
    refine j4 _ ?_
    unfold Cr.spot
    rw [gx, gy, LL_len, decide_eq_true hxi, decide_eq_false (by omega), hP]
    rfl
   ·rw [if_neg (show ¬ Cr.bl x[i] = ([43] : List UInt8) from hP)]
    refine j4 _ ?_
    unfold Cr.spot
    rw [gx, gy, LL_len, decide_eq_true hxi, show (Cr.bl x[i] != Cr.P) = true from bne_iff_ne.2 hP]
    rfl
  ·rw [if_neg (by omega), if_pos (by omega)]
   cases o with
   | true =>
    rw [if_pos rfl, if_pos (by omega)]
    refine j4 _ ?_
    unfold Cr.spot
    rw [gy, LL_len, decide_eq_false hxi, decide_eq_true (by omega)]
    rfl
   | false =>
    rw [if_neg (by decide)]
    refine j4 _ ?_
    unfold Cr.spot
    rw [gy, LL_len, decide_eq_false hxi, decide_eq_true (by omega)]
    rfl

theorem rOut_l0 (hxm : x.length ≤ m) (M : Nat) (hmx : mx (m : Int) (y.length : Int) = (M : Int)) (hM : M ≤ 400000) : ∀ (d i k : Nat), M + 2 - i = d → m ≤ i → i ≤ M + 2 → 40000020 + 3 * y.length + d < k →
  ∃ t, crierref6_Outside.l0 k f g x o (m : Int) y (i : Int) = some (t, anyF (fun n => Cr.shw (Cr.fill (LL x) n) (Cr.bl f) (Cr.bl g)) i d || anyF (fun i => Cr.spot (LL x) (LL y) o i && Cr.shw ((Cr.fill (LL x) (max m (i + 1))).set i [97]) (Cr.bl f) (Cr.bl g)) 0 y.length) := by
 intro d
 have e1 : Unit → wrap64 ((M : Int) + 1) = ((M + 1 : Nat) : Int) := fun _ => wrap_n (n := 1000000) (by omega) (by omega)
 induction d with
 | zero =>
  intro i k hd hi hi2 hk
  obtain ⟨k, rfl⟩ : ∃ m, k = m + 2 := ⟨k - 2, by omega⟩
  rw [show k + 2 = (k + 1) + 1 from rfl, crierref6_Outside.l0, hmx, e1 (), if_neg (by omega), crierref6_Outside.j2]
  obtain ⟨t, ht⟩ := rOut_l1 f g hf hg x y o m hx hy hm hw hxm y.length 0 k (by omega) (by omega) (by omega)
  exact ⟨t, ht⟩
 | succ d ih =>
  intro i k hd hi hi2 hk
  obtain ⟨k, rfl⟩ : ∃ m, k = m + 1 := ⟨k - 1, by omega⟩
  have hwr : Unit → wrap64 ((i : Int) + 1) = ((i + 1 : Nat) : Int) := fun _ => wrap_n (n := 1000000) (by omega) (by omega)
  obtain ⟨r, h1, h2, h3⟩ := rfill x i (by omega) (by omega) k (by omega)
  have h9 : r.length ≤ 1000000 := by rw [h3]; exact Nat.max_le.2 ⟨by omega, by omega⟩
  clear h3
  have h4 := wt_fill (LL x) i
  rw [crierref6_Outside.l0, hmx, e1 (), if_pos (by omega), h1]
  simp only [Option.bind_some]
  rw [rshows r f g (by rw [h2]; omega) (by omega) (by omega) (by omega) k (by omega), h2, hwr (), anyF]
  simp only [Option.bind_some]
  obtain ⟨t0, ht0⟩ := ih (i + 1) k (by omega) (by omega) (by omega) (by omega)
  cases Cr.shw (Cr.fill (LL x) i) (Cr.bl f) (Cr.bl g) with
  | true => rw [if_pos rfl, if_pos rfl]; exact ⟨_, rfl⟩
  | false => simp only [Bool.false_eq_true, if_false]; exact ⟨t0, ht0⟩
end

theorem rOutside (f g : ByteArray) (hf : f.size ≤ 140000) (hg : g.size ≤ 140000) (k : Nat) (hk : 50000000 < k) : ∃ t, crierref6_Outside.f k f g = some (t, (Cr.outside (Cr.bl f) (Cr.bl g)).isSome) := by
 rw [← Cr.out_ref]
 unfold crierref6_Outside.f Cr.outOk
 rw [rPlain f (by omega) k (by omega)]
 simp only [Option.bind_some]
 cases hp : Cr.plain (Cr.bl f) with
 | false => rw [if_neg (by decide)]; exact ⟨_, rfl⟩
 | true =>
  rw [if_pos rfl]
  obtain ⟨x, hx1, hx2, hx3⟩ := ropen f (by omega) k (by omega)
  have lx := levelsB_len f
  have wx : wt (LL x) ≤ f.size + 1 := by
   rw [hx2]
   have := wt_opn (Cr.levels (Cr.bl f))
   rw [wt_levels, Cr.bl_len] at this; exact this
  rw [hx1]
  simp only [Option.bind_some]
  rw [← hx2, LL_len]
  generalize (Cr.opn (Cr.levels (Cr.bl f))).2 = o
  have em : mx (x.length : Int) 1 = ((max x.length 1 : Nat) : Int) := mx_nat x.length 1
  obtain ⟨m, hm, hm1, hm2, hm3⟩ : ∃ m, max x.length 1 = m ∧ x.length ≤ m ∧ 1 ≤ m ∧ m ≤ x.length + 1 := ⟨_, rfl, Nat.le_max_left _ _, Nat.le_max_right _ _, by omega⟩
  rw [hm] at em ⊢
  clear hm
  have em1 : Unit → wrap64 (((m : Nat) : Int) + 1) = ((m + 1 : Nat) : Int) := fun _ => wrap_n (n := 1000000) (by omega) (by omega)
  have em2 : Unit → wrap64 (((m : Nat) : Int) + 2) = ((m + 2 : Nat) : Int) := fun _ => by unfold wrap64; omega
  rw [em, em1 ()]
  obtain ⟨r, h1, h2, h3⟩ := rfill x m (by omega) (by omega) k (by omega)
  have h9 : r.length ≤ 1000000 := by rw [h3]; exact Nat.max_le.2 ⟨by omega, by omega⟩
  clear h3
  have w1 := wt_fill (LL x) (m)
  rw [h1]
  simp only [Option.bind_some]
  obtain ⟨ra, ha1, ha2, ha3⟩ := ralive r ⟨#[]⟩ k (by omega)
  obtain ⟨rb, hb1, hb2, hb3⟩ := ralive r ⟨#[97]⟩ k (by omega)
  have wa := wt_alive (LL r) (Cr.bl ⟨#[]⟩)
  have wb := wt_alive (LL r) (Cr.bl ⟨#[97]⟩)
  rw [h2] at ha2 hb2 wa wb
  rw [ha1, hb1]
  simp only [Option.bind_some]
  rw [rshows ra f g (by rw [ha2]; omega) (by omega) (by omega) (by omega) k (by omega), rshows rb f g (by rw [hb2]; omega) (by omega) (by omega) (by omega) k (by omega), ha2, hb2]
  simp only [Option.bind_some]
  rw [show Cr.bl (⟨#[]⟩ : ByteArray) = [] from rfl, show Cr.bl (⟨#[97]⟩ : ByteArray) = [97] from rfl]
  cases Cr.shw (Cr.alive (Cr.fill (LL x) (m)) []) (Cr.bl f) (Cr.bl g) with
  | true => rw [if_pos rfl, if_pos rfl]; exact ⟨_, rfl⟩
  | false =>
   simp only [Bool.false_eq_true, if_false]
   cases Cr.shw (Cr.alive (Cr.fill (LL x) (m)) [97]) (Cr.bl f) (Cr.bl g) with
   | true => rw [if_pos rfl, if_pos rfl]; exact ⟨_, rfl⟩
   | false =>
    simp only [Bool.false_eq_true, if_false]
    -- the rest: g
    have rest : ∃ t, crierref6_Outside.j0 k f g x o ((m : Nat) : Int) = some (t, Cr.plain (Cr.bl g) && ((o && (List.range (max (m) (Cr.opn (Cr.levels (Cr.bl g))).1.length + 2)).any fun n => decide (m + 2 ≤ n) && Cr.shw (Cr.fill (LL x) n) (Cr.bl f) (Cr.bl g)) ||
      (List.range (Cr.opn (Cr.levels (Cr.bl g))).1.length).any fun i => Cr.spot (LL x) (Cr.opn (Cr.levels (Cr.bl g))).1 o i && Cr.shw ((Cr.fill (LL x) (max (m) (i + 1))).set i [97]) (Cr.bl f) (Cr.bl g))) := by
     obtain ⟨k, rfl⟩ : ∃ m, k = m + 2 := ⟨k - 2, by omega⟩
     rw [show k + 2 = (k + 1) + 1 from rfl, crierref6_Outside.j0, rPlain g (by omega) _ (by omega)]
     simp only [Option.bind_some]
     cases hq : Cr.plain (Cr.bl g) with
     | false => rw [if_neg (by decide)]; exact ⟨_, rfl⟩
     | true =>
      obtain ⟨y, hy1, hy2, hy3⟩ := ropen g (by omega) (k + 1) (by omega)
      have ly := levelsB_len g
      rw [if_pos rfl, hy1]
      simp only [Option.bind_some]
      rw [← hy2, LL_len, em2 (), Bool.true_and]
      have eB : anyF (fun i => Cr.spot (LL x) (LL y) o i && Cr.shw ((Cr.fill (LL x) (max (m) (i + 1))).set i [97]) (Cr.bl f) (Cr.bl g)) 0 y.length = (List.range y.length).any fun i => Cr.spot (LL x) (LL y) o i && Cr.shw ((Cr.fill (LL x) (max (m) (i + 1))).set i [97]) (Cr.bl f) (Cr.bl g) := by
       rw [Bool.eq_iff_iff, anyF_iff, List.any_eq_true]
       constructor
       ·rintro ⟨j, _, h6, h7⟩; exact ⟨j, List.mem_range.2 (by omega), h7⟩
       ·rintro ⟨j, h6, h7⟩; exact ⟨j, Nat.zero_le _, by have := List.mem_range.1 h6; omega, h7⟩
      cases o with
      | false =>
       rw [if_neg (by decide), crierref6_Outside.j2]
       obtain ⟨t, ht⟩ := rOut_l1 f g hf hg x y false (m) (by omega) (by omega) (by omega) (by omega) (by omega) y.length 0 k (by omega) (by omega) (by omega)
       refine ⟨t, ht.trans ?_⟩
       rw [eB, Bool.false_and, Bool.false_or]
      | true =>
       rw [if_pos rfl]
       obtain ⟨M, hM, hM1, hM2, hM3⟩ : ∃ M, max m y.length = M ∧ m ≤ M ∧ y.length ≤ M ∧ M ≤ m + y.length := ⟨_, rfl, Nat.le_max_left _ _, Nat.le_max_right _ _, by omega⟩
       have hmx : mx (m : Int) (y.length : Int) = (M : Int) := by rw [mx_nat, hM]
       rw [hM]
       clear hM
       obtain ⟨t, ht⟩ := rOut_l0 f g hf hg x y true m (by omega) (by omega) (by omega) (by omega) (by omega) M hmx (by omega) (M + 2 - (m + 2)) (m + 2) (k + 1) (by omega) (by omega) (by omega) (by omega)
       refine ⟨t, ht.trans ?_⟩
       rw [eB, Bool.true_and]
       have eA : anyF (fun n => Cr.shw (Cr.fill (LL x) n) (Cr.bl f) (Cr.bl g)) (m + 2) (M + 2 - (m + 2)) = (List.range (M + 2)).any fun n => decide (m + 2 ≤ n) && Cr.shw (Cr.fill (LL x) n) (Cr.bl f) (Cr.bl g) := by
        rw [Bool.eq_iff_iff, anyF_iff, List.any_eq_true]
        constructor
        ·rintro ⟨j, h5, h6, h7⟩
         refine ⟨j, List.mem_range.2 (by omega), ?_⟩
         rw [decide_eq_true h5, h7]; rfl
        ·rintro ⟨j, h6, h7⟩
         rw [Bool.and_eq_true, decide_eq_true_eq] at h7
         exact ⟨j, h7.1, by have := List.mem_range.1 h6; omega, h7.2⟩
       rw [eA]
    obtain ⟨t0, ht0⟩ := rest
    rw [ht0, Bool.false_or, Bool.false_or]
    cases o with
    | false => rw [if_neg (by decide)]; exact ⟨_, rfl⟩
    | true =>
     obtain ⟨r3, h31, h32, h33⟩ := rfill x (m + 1) (by omega) (by omega) k (by omega)
     have h39 : r3.length ≤ 1000000 := by rw [h33]; exact Nat.max_le.2 ⟨by omega, by omega⟩
     clear h33
     have w3 := wt_fill (LL x) (m + 1)
     rw [if_pos rfl, h31]
     simp only [Option.bind_some]
     rw [rshows r3 f g (by rw [h32]; omega) (by omega) (by omega) (by omega) k (by omega), h32]
     simp only [Option.bind_some]
     cases Cr.shw (Cr.fill (LL x) (m + 1)) (Cr.bl f) (Cr.bl g) with
     | true => rw [if_pos rfl, if_pos rfl]; exact ⟨_, rfl⟩
     | false => simp only [Bool.false_eq_true, if_false]; exact ⟨_, rfl⟩
end Go.Proofs.Ytamelcgamlcliaa.Giv
