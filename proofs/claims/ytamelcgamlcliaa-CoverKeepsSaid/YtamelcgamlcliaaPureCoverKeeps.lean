/- The plain law of CoverKeeps: what any of l matches one that is left matches; of those that are left none lies within another one. -/
import Derived.Test.YtamelcgamlcliaaLCoverKeepsx2
import Derived.Test.YtamelcgamlcliaaLeP
namespace Go.Proofs.Ytamelcgamlcliaa.Pure
open Go.RowKit Go.Proofs.YtamelcgamlcliaaW.PrintWords Go.Proofs.YtamelcgamlcliaaW.PrintLast Go.Proofs.Ytamelcgamlcliaa.Giv Go.Proofs.Ytamelcgamlcliaa.MCoverTopics Go.Proofs.Ytamelcgamlcliaa.LCoverKeeps
set_option linter.unusedVariables false
set_option linter.unusedSimpArgs false

/-- the text t is matched -/
def M (t s : ByteArray) : Bool := Cr.mt (Cr.bl s) (Cr.bl t)
theorem wrap1 {i n : Nat} (h : i ≤ n) (hn : n ≤ 1000000000000000) : wrap64 ((i : Int) + 1) = ((i + 1 : Nat) : Int) := by
  rw [wrap_in (by omega) (by omega)]; omega
theorem take_any {l : List ByteArray} {i : Nat} (h : i < l.length) (f : ByteArray → Bool) : (l.take (i + 1)).any f = ((l.take i).any f || f l[i]) := by
  have h2 : l.take (i + 1) = l.take i ++ [l[i]] := by rw [List.take_add_one, List.getElem?_eq_getElem h]; rfl
  rw [h2, List.any_append]
  simp only [List.any_cons, List.any_nil, Bool.or_false]

section
variable {l x : List ByteArray} {t : ByteArray}

theorem keeps_l4 (hx : x.length ≤ 40) (hxs : ∀ s ∈ x, s.size ≤ 20000) {was is : Bool} {kk : Int} {i : Nat} (hi : i < x.length) (hap : ∀ j (h : j < x.length), j ≠ i → Cr.within (Cr.bl x[i]) (Cr.bl x[j]) = false) {C : Nat}
    (next : ∀ k, C ≤ k → crierlaw6_CoverKeeps.l2 k l t x was is kk ((i + 1 : Nat) : Int) = some true) :
    ∀ (d j k : Nat), x.length - j = d → j ≤ x.length → C + d + 1 ≤ k → crierlaw6_CoverKeeps.l4 k l t x was is kk (i : Int) (j : Int) = some true := by
  intro d
  induction d with
  | zero =>
    intro j k hd hj hk
    obtain ⟨k, rfl⟩ : ∃ m, k = m + 1 := ⟨k - 1, by omega⟩
    rw [crierlaw6_CoverKeeps.l4, if_neg (by omega), wrap1 (n := 40) (by omega) (by omega)]
    exact next k (by omega)
  | succ d ih =>
    intro j k hd hj hk
    obtain ⟨k, rfl⟩ : ∃ m, k = m + 1 := ⟨k - 1, by omega⟩
    have hjl : j < x.length := by omega
    have step := ih (j + 1) k (by omega) (by omega) (by omega)
    rw [crierlaw6_CoverKeeps.l4, if_pos (by omega), wrap1 (n := 40) (by omega) (by omega)]
    by_cases hji : j = i
    · rw [if_pos (by omega)]; exact step
    · rw [if_neg (by omega), if_pos (by omega), if_pos (by omega), if_pos (by omega), rd_at x i hi, rd_at x j hjl]
      have s1 := hxs x[i] (List.getElem_mem hi)
      have s2 := hxs x[j] (List.getElem_mem hjl)
      rw [Within_f (show x[i].size ≤ big by unfold big; omega) (show x[j].size ≤ big by unfold big; omega), hap j hjl hji]
      simp only [Option.bind_some]
      rw [if_neg (by decide)]
      exact step

theorem keeps_l3 (hl : l.length ≤ 40) {was is : Bool} {i : Nat} (hi : i < x.length) {C : Nat}
    (next : ∀ kk k, kk < l.length → List.Sublist (x.drop (i + 1)) (l.drop (kk + 1)) → C ≤ k → crierlaw6_CoverKeeps.j7 k l t x was is (kk : Int) (i : Int) = some true) :
    ∀ (d kk k : Nat), l.length - kk = d → List.Sublist (x.drop i) (l.drop kk) → C + d + 1 ≤ k → crierlaw6_CoverKeeps.l3 k l t x was is (kk : Int) (i : Int) = some true := by
  have hxi := List.drop_eq_getElem_cons hi
  intro d
  induction d with
  | zero =>
    intro kk k hd hsub hk
    exfalso
    rw [hxi, List.drop_eq_nil_of_le (show l.length ≤ kk by omega)] at hsub
    cases hsub
  | succ d ih =>
    intro kk k hd hsub hk
    obtain ⟨k, rfl⟩ : ∃ m, k = m + 1 := ⟨k - 1, by omega⟩
    have hkl : kk < l.length := by omega
    have hlk := List.drop_eq_getElem_cons hkl
    rw [hxi, hlk] at hsub
    have hg := greedy hsub
    rw [crierlaw6_CoverKeeps.l3, if_pos (by omega), if_pos (by omega), if_pos (by omega), if_pos (by omega), rd_at l kk hkl, rd_at x i hi]
    by_cases he : l[kk] = x[i]
    · rw [if_pos (by rw [he])]
      exact next kk k hkl (hg.2 he) (by omega)
    · rw [if_neg (fun h => he (bl_inj (by rw [← tl, ← tl]; exact h))), wrap1 (n := 40) (by omega) (by omega)]
      refine ih (kk + 1) k (by omega) ?_ (by omega)
      rw [hxi]
      exact hg.1 he

theorem keeps_l2 (hl : l.length ≤ 40) (hx : x.length ≤ 40) (ht : t.size ≤ 20000) (hxs : ∀ s ∈ x, s.size ≤ 20000) (hap : ∀ i j (h : i < x.length) (h2 : j < x.length), j ≠ i → Cr.within (Cr.bl x[i]) (Cr.bl x[j]) = false)
    (hany : l.any (M t) = x.any (M t)) (hne : l.length = 0 ↔ x.length = 0) :
    ∀ (d i kk k : Nat), x.length - i = d → i ≤ x.length → kk ≤ l.length → List.Sublist (x.drop i) (l.drop kk) → 50000 + 200 * d < k → crierlaw6_CoverKeeps.l2 k l t x (l.any (M t)) ((x.take i).any (M t)) (kk : Int) (i : Int) = some true := by
  intro d
  induction d with
  | zero =>
    intro i kk k hd hi hkk hsub hk
    obtain ⟨k, rfl⟩ : ∃ m, k = m + 1 := ⟨k - 1, by omega⟩
    rw [crierlaw6_CoverKeeps.l2, if_neg (by omega), List.take_of_length_le (by omega), hany, if_pos (by simp)]
    congr 1
    rw [beq_iff_eq, Bool.eq_iff_iff, beq_iff_eq, beq_iff_eq]
    omega
  | succ d ih =>
    intro i kk k hd hi hkk hsub hk
    obtain ⟨k, rfl⟩ : ∃ m, k = m + 2 := ⟨k - 2, by omega⟩
    have hil : i < x.length := by omega
    have sx := hxs x[i] (List.getElem_mem hil)
    -- the rest of the round, with the new mark
    have rest : ∀ m, 50000 + 200 * d + 100 < m → crierlaw6_CoverKeeps.j5 (m + 1) l t x (l.any (M t)) ((x.take (i + 1)).any (M t)) (kk : Int) (i : Int) = some true := by
      intro m hm
      rw [crierlaw6_CoverKeeps.j5]
      refine keeps_l3 hl hil (C := 50000 + 200 * d + 50) (fun kk2 k2 hk2 hs2 hc2 => ?_) (l.length - kk) kk m rfl hsub (by omega)
      obtain ⟨k2, rfl⟩ : ∃ m, k2 = m + 1 := ⟨k2 - 1, by omega⟩
      rw [crierlaw6_CoverKeeps.j7, if_neg (by omega), wrap1 (n := 40) (by omega) (by omega)]
      exact keeps_l4 hx hxs hil (fun j hj hne2 => hap i j hil hj hne2) (C := 50000 + 200 * d + 1) (fun k3 hk3 => ih (i + 1) (kk2 + 1) k3 (by omega) (by omega) (by omega) hs2 (by omega)) (x.length - 0) 0 k2 rfl (by omega) (by omega)
    have hta := take_any hil (M t)
    rw [show k + 2 = (k + 1) + 1 from rfl, crierlaw6_CoverKeeps.l2, if_pos (by omega)]
    cases hb : (x.take i).any (M t) with
    | true =>
      rw [hb, Bool.true_or] at hta
      have h3 := rest k (by omega)
      rw [hta] at h3
      rw [if_pos rfl]; exact h3
    | false =>
      rw [hb, Bool.false_or] at hta
      rw [if_neg (by decide), if_pos (by omega), rd_at x i hil, Match_f x[i] t (by unfold big; omega) (by unfold big; omega) _ (by omega)]
      simp only [Option.bind_some]
      rw [show Cr.mt (Cr.bl x[i]) (Cr.bl t) = (x.take (i + 1)).any (M t) from hta.symm]
      exact rest k (by omega)

theorem keeps_l1 (hl : l.length ≤ 40) (ht : t.size ≤ 20000) (hls : ∀ s ∈ l, s.size ≤ 20000) {C : Nat} (hC : 50000 ≤ C)
    (next : ∀ k, C ≤ k → crierlaw6_CoverKeeps.l2 k l t x (l.any (M t)) false 0 0 = some true) :
    ∀ (d i k : Nat), l.length - i = d → i ≤ l.length → C + d + 1 ≤ k → crierlaw6_CoverKeeps.l1 k l t x ((l.take i).any (M t)) false (i : Int) = some true := by
  intro d
  induction d with
  | zero =>
    intro i k hd hi hk
    obtain ⟨k, rfl⟩ : ∃ m, k = m + 1 := ⟨k - 1, by omega⟩
    rw [crierlaw6_CoverKeeps.l1, if_neg (by omega), List.take_of_length_le (by omega)]
    exact next k (by omega)
  | succ d ih =>
    intro i k hd hi hk
    obtain ⟨k, rfl⟩ : ∃ m, k = m + 1 := ⟨k - 1, by omega⟩
    have hil : i < l.length := by omega
    have sx := hls l[i] (List.getElem_mem hil)
    have step := ih (i + 1) k (by omega) (by omega) (by omega)
    rw [take_any hil] at step
    rw [crierlaw6_CoverKeeps.l1, if_pos (by omega), wrap1 (n := 40) (by omega) (by omega)]
    cases hb : (l.take i).any (M t) with
    | true =>
      rw [hb, Bool.true_or] at step
      rw [if_pos rfl]; exact step
    | false =>
      rw [hb, Bool.false_or] at step
      rw [if_neg (by decide), if_pos (by omega), rd_at l i hil, Match_f l[i] t (by unfold big; omega) (by unfold big; omega) _ (by omega)]
      simp only [Option.bind_some]
      exact step
end

theorem keeps_main (l : List ByteArray) (t : ByteArray) (hl : l.length ≤ 40) (ht : t.size ≤ 20000) (hls : ∀ s ∈ l, s.size ≤ 20000) (k : Nat) (hk : 100000 < k) : crierlaw6_CoverKeeps.j2 k l t false = some true := by
  obtain ⟨k, rfl⟩ : ∃ m, k = m + 1 := ⟨k - 1, by omega⟩
  rw [crierlaw6_CoverKeeps.j2, if_neg (by decide), show crierlaw6_known.f = some true from rfl]
  simp only [Option.bind_some]
  rw [if_pos trivial]
  unfold cover_Least.f
  rw [if_pos ⟨by unfold big; omega, fun s hs => by have := hls s hs; unfold big; omega⟩]
  simp only [Option.bind_some]
  have hsub := leastGo_sub l.length l
  have hxl : (leastGo l.length l).length ≤ 40 := Nat.le_trans hsub.length_le hl
  have hxs : ∀ s ∈ leastGo l.length l, s.size ≤ 20000 := fun s hs => hls s (hsub.subset hs)
  have hany : l.any (M t) = (leastGo l.length l).any (M t) := by
    rw [Bool.eq_iff_iff, List.any_eq_true, List.any_eq_true]
    exact (leastGo_any (Cr.bl t) l.length l (Nat.le_refl _)).symm
  have hne : l.length = 0 ↔ (leastGo l.length l).length = 0 := by
    constructor
    · intro h
      have := hsub.length_le
      omega
    · intro h
      rcases Nat.eq_zero_or_pos l.length with h1 | h1
      · exact h1
      · exfalso
        exact leastGo_ne l.length l (Nat.le_refl _) (fun h2 => by rw [h2] at h1; simp at h1) (List.length_eq_zero_iff.1 h)
  have h2 : ∀ k, 90000 ≤ k → crierlaw6_CoverKeeps.l2 k l t (leastGo l.length l) (l.any (M t)) false 0 0 = some true := by
    intro k hk
    exact keeps_l2 hl hxl ht hxs (fun i j h h2 hij => leastGo_apart l i j h h2 hij) hany hne (leastGo l.length l).length 0 0 k (by omega) (by omega) (by omega) (by simpa using hsub) (by omega)
  exact keeps_l1 hl ht hls (C := 90000) (by omega) h2 l.length 0 k (by omega) (by omega) (by omega)

theorem keeps_j1 (l : List ByteArray) (t : ByteArray) (n : Int) (h : n ≤ 20000 → t.size ≤ 20000 ∧ ∀ s ∈ l, s.size ≤ 20000) (k : Nat) (hk : 100002 < k) : crierlaw6_CoverKeeps.j1 k l t n = some true := by
  obtain ⟨k, rfl⟩ : ∃ m, k = m + 2 := ⟨k - 2, by omega⟩
  rw [show k + 2 = (k + 1) + 1 from rfl, crierlaw6_CoverKeeps.j1]
  by_cases hn : n > 20000
  · rw [if_pos hn, crierlaw6_CoverKeeps.j2, if_pos rfl]
  · rw [if_neg hn]
    by_cases hl : (l.length : Int) > 40
    · rw [decide_eq_true hl, crierlaw6_CoverKeeps.j2, if_pos rfl]
    · rw [decide_eq_false hl]
      obtain ⟨h1, h2⟩ := h (by omega)
      exact keeps_main l t (by omega) h1 h2 (k + 1) (by omega)

theorem keeps_l0 (l : List ByteArray) (t : ByteArray) (hll : l.length ≤ 140737488351232) (hls : ∀ s ∈ l, s.size ≤ 140737488351232) :
    ∀ (d i k : Nat) (n : Int), l.length - i = d → i ≤ l.length → 0 ≤ n → n ≤ 1000000000000000 → (n ≤ 20000 → t.size ≤ 20000 ∧ ∀ j (h : j < l.length), j < i → l[j].size ≤ 20000) → 100003 + d < k → crierlaw6_CoverKeeps.l0 k l t n (i : Int) = some true := by
  intro d
  induction d with
  | zero =>
    intro i k n hd hi h0 h1 hinv hk
    obtain ⟨k, rfl⟩ : ∃ m, k = m + 1 := ⟨k - 1, by omega⟩
    rw [crierlaw6_CoverKeeps.l0, if_neg (by omega)]
    refine keeps_j1 l t n (fun hn => ⟨(hinv hn).1, fun s hs => ?_⟩) k (by omega)
    obtain ⟨j, hj, rfl⟩ := List.mem_iff_getElem.1 hs
    exact (hinv hn).2 j hj (by omega)
  | succ d ih =>
    intro i k n hd hi h0 h1 hinv hk
    obtain ⟨k, rfl⟩ : ∃ m, k = m + 1 := ⟨k - 1, by omega⟩
    have hil : i < l.length := by omega
    rw [crierlaw6_CoverKeeps.l0, if_pos (by omega)]
    by_cases hn : n ≤ 20000
    · have sx := hls l[i] (List.getElem_mem hil)
      rw [if_pos hn, if_pos (by omega), rd_at l i hil]
      have e1 : wrap64 (wrap64 (n + 1) + (l[i].size : Int)) = n + 1 + (l[i].size : Int) := by unfold wrap64; omega
      have e2 : wrap64 ((i : Int) + 1) = ((i + 1 : Nat) : Int) := wrap1 (n := 140737488351232) (by omega) (by omega)
      rw [e1, e2]
      refine ih (i + 1) k _ (by omega) (by omega) (by omega) (by omega) (fun h2 => ⟨(hinv hn).1, fun j hj hji => ?_⟩) (by omega)
      by_cases hjj : j = i
      · subst hjj; omega
      · exact (hinv hn).2 j hj (by omega)
    · rw [if_neg hn]
      exact keeps_j1 l t n (fun h => absurd h hn) k (by omega)

theorem CoverKeeps (l : List ByteArray) (t : ByteArray) (hl : l.length ≤ 140737488351232) (hs : ∀ s ∈ l, s.size ≤ 140737488351232) (ht : t.size ≤ 140737488351232) : ∃ k, crierlaw6_CoverKeeps.f k l t = some true := by
  refine ⟨100004 + l.length, ?_⟩
  unfold crierlaw6_CoverKeeps.f
  exact keeps_l0 l t hl hs l.length 0 _ _ (by omega) (by omega) (by omega) (by omega) (fun h => ⟨by omega, fun j _ h => by omega⟩) (by omega)
end Go.Proofs.Ytamelcgamlcliaa.Pure
