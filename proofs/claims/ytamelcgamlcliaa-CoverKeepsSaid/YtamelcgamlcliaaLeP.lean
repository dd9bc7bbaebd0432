/- Least, as the plain list program leastGo: it keeps what matches, keeps the order, leaves none within another one, and leaves something of something. -/
import Derived.Test.YtamelcgamlcliaaLea
namespace Go.Proofs.Ytamelcgamlcliaa.Giv
open Go.RowKit
set_option linter.unusedVariables false
set_option linter.unusedSimpArgs false

theorem hitL_iff (l : List ByteArray) (i : Nat) (hi : i < l.length) : hitL l i = true ↔ ∃ k, ∃ h : k < l.length, k ≠ i ∧ Cr.within (Cr.bl l[i]) (Cr.bl l[k]) = true := by
  unfold hitL
  rw [List.any_eq_true]
  constructor
  · rintro ⟨k, hk, h⟩
    have hk := List.mem_range.1 hk
    rw [Bool.and_eq_true, decide_eq_true_eq, rd_at l i hi, rd_at l k hk] at h
    exact ⟨k, hk, h.1, h.2⟩
  · rintro ⟨k, hk, h1, h2⟩
    refine ⟨k, List.mem_range.2 hk, ?_⟩
    rw [Bool.and_eq_true, decide_eq_true_eq, rd_at l i hi, rd_at l k hk]
    exact ⟨h1, h2⟩

theorem leastGo_sub : ∀ (i : Nat) (l : List ByteArray), List.Sublist (leastGo i l) l
  | 0, l => List.Sublist.refl l
  | i + 1, l => by
    rw [leastGo]
    split
    · exact (leastGo_sub i _).trans (List.eraseIdx_sublist l i)
    · exact leastGo_sub i l

theorem erase_get {l : List ByteArray} {i k : Nat} (hk : k < l.length) (hne : k ≠ i) : l[k] ∈ l.eraseIdx i := by
  rw [List.mem_eraseIdx_iff_getElem]
  exact ⟨k, hk, hne, rfl⟩

theorem leastGo_any (t : Cr.T) : ∀ (i : Nat) (l : List ByteArray), i ≤ l.length → ((∃ x ∈ leastGo i l, Cr.mt (Cr.bl x) t = true) ↔ ∃ x ∈ l, Cr.mt (Cr.bl x) t = true)
  | 0, l, _ => Iff.rfl
  | i + 1, l, hi => by
    rw [leastGo]
    split
    · rename_i hh
      have hl : (l.eraseIdx i).length = l.length - 1 := List.length_eraseIdx_of_lt (by omega)
      rw [leastGo_any t i _ (by omega)]
      constructor
      · rintro ⟨x, hx, h⟩
        exact ⟨x, List.mem_of_mem_eraseIdx hx, h⟩
      · rintro ⟨x, hx, h⟩
        obtain ⟨k, hk, hne, hw⟩ := (hitL_iff l i (by omega)).1 hh
        obtain ⟨j, hj, rfl⟩ := List.mem_iff_getElem.1 hx
        by_cases hji : j = i
        · subst hji
          exact ⟨l[k], erase_get hk hne, (Cr.within_iff _ _).1 hw t h⟩
        · exact ⟨l[j], erase_get hj hji, h⟩
    · exact leastGo_any t i l (by omega)

theorem leastGo_ne : ∀ (i : Nat) (l : List ByteArray), i ≤ l.length → l ≠ [] → leastGo i l ≠ []
  | 0, l, _, h => h
  | i + 1, l, hi, h => by
    rw [leastGo]
    split
    · rename_i hh
      have hl : (l.eraseIdx i).length = l.length - 1 := List.length_eraseIdx_of_lt (by omega)
      obtain ⟨k, hk, hne, hw⟩ := (hitL_iff l i (by omega)).1 hh
      refine leastGo_ne i _ (by omega) (fun h0 => ?_)
      rw [h0] at hl
      simp at hl
      omega
    · exact leastGo_ne i l (by omega) h

theorem hit_erase {l : List ByteArray} {i p : Nat} (hi : i < l.length) (hp : i ≤ p) (hpl : p < (l.eraseIdx i).length) (h : hitL l (p + 1) = false) : hitL (l.eraseIdx i) p = false := by
  have hl : (l.eraseIdx i).length = l.length - 1 := List.length_eraseIdx_of_lt hi
  rw [Bool.eq_false_iff]
  intro hh
  obtain ⟨k, hk, hne, hw⟩ := (hitL_iff _ p hpl).1 hh
  rw [Bool.eq_false_iff] at h
  refine h ((hitL_iff l (p + 1) (by omega)).2 ?_)
  rw [List.getElem_eraseIdx, List.getElem_eraseIdx, dif_neg (by omega)] at hw
  by_cases hki : k < i
  · rw [dif_pos hki] at hw
    exact ⟨k, by omega, by omega, hw⟩
  · rw [dif_neg hki] at hw
    exact ⟨k + 1, by omega, by omega, hw⟩

theorem leastGo_none : ∀ (i : Nat) (l : List ByteArray), i ≤ l.length → (∀ p, i ≤ p → p < l.length → hitL l p = false) → ∀ p, p < (leastGo i l).length → hitL (leastGo i l) p = false
  | 0, l, _, h => fun p hp => h p (Nat.zero_le _) hp
  | i + 1, l, hi, h => by
    rw [leastGo]
    have hl : (l.eraseIdx i).length = l.length - 1 := List.length_eraseIdx_of_lt (by omega)
    split
    · exact leastGo_none i _ (by omega) (fun p hp hpl => hit_erase (by omega) hp hpl (h (p + 1) (by omega) (by omega)))
    · rename_i hh
      refine leastGo_none i l (by omega) (fun p hp hpl => ?_)
      by_cases hpi : p = i
      · subst hpi; exact Bool.eq_false_iff.2 hh
      · exact h p (by omega) hpl

theorem leastGo_apart (l : List ByteArray) (i j : Nat) (hi : i < (leastGo l.length l).length) (hj : j < (leastGo l.length l).length) (hij : j ≠ i) : Cr.within (Cr.bl (leastGo l.length l)[i]) (Cr.bl (leastGo l.length l)[j]) = false := by
  have h := leastGo_none l.length l (Nat.le_refl _) (fun p h1 h2 => by omega) i hi
  rw [Bool.eq_false_iff] at h ⊢
  exact fun hw => h ((hitL_iff _ i hi).2 ⟨j, hj, hij, hw⟩)

/-- the greedy look for the one list's texts in the other one -/
theorem greedy {x y : ByteArray} {xs ys : List ByteArray} (h : List.Sublist (x :: xs) (y :: ys)) : (y ≠ x → List.Sublist (x :: xs) ys) ∧ (y = x → List.Sublist xs ys) := by
  constructor
  · intro hne
    cases h with
    | cons _ h => exact h
    | cons_cons _ h => exact absurd rfl hne
  · intro he
    subst he
    exact List.cons_sublist_cons.1 h
end Go.Proofs.Ytamelcgamlcliaa.Giv
