/- Runes of a string and its levels: plain lemmas on the model's decoding. -/
import Derived.Laws.RangeAny
import Derived.Test.YtfomjbbebgajcaaGreatDoorCr
set_option linter.unusedVariables false
namespace Cr
open Go

abbrev bl (s : ByteArray) : T := s.data.toList

theorem bl_len (s : ByteArray) : (bl s).length = s.size := by unfold bl; rw [Array.length_toList]; rfl
theorem get_bl (s : ByteArray) (i : Nat) (h : i < s.size) : s.get! i = (bl s)[i]'(by rw [bl_len]; exact h) := by
 simp [ByteArray.get!, bl, getElem!_pos, h]

/-- a rune's bytes behind its first are no ASCII; its width -/
theorem decode_width (s : ByteArray) (i : Nat) (h : i < s.size) : 1 ≤ (Utf8.decode s i).2 ∧ i + (Utf8.decode s i).2 ≤ s.size ∧ (∀ j, i < j → j < i + (Utf8.decode s i).2 → 128 ≤ (s.get! j).toNat) := by
 have hc : ∀ k, (i + k < s.size && (s.get! (i + k)).toNat / 64 == 2) = true → i + k < s.size ∧ 128 ≤ (s.get! (i + k)).toNat := by
  intro k hk
  simp only [Bool.and_eq_true, decide_eq_true_eq, beq_iff_eq] at hk
  exact ⟨hk.1, by omega⟩
 have one : ∀ j, i < j → j < i + 1 → 128 ≤ (s.get! j).toNat := fun j h1 h2 => by omega
 simp only [Utf8.decode]
 split
 ·exact ⟨Nat.le_refl _, h, one⟩
 split
 ·rename_i h2
  simp only [Bool.and_eq_true] at h2
  have k1 := hc 1 (by simpa [Bool.and_eq_true] using h2.2)
  split
  ·refine ⟨by simp, by have := k1.1; show i + 2 ≤ s.size; omega, fun j h3 h4 => ?_⟩
   obtain rfl : j = i + 1 := by simp at h4; omega
   exact k1.2
  ·exact ⟨Nat.le_refl _, h, one⟩
 split
 ·rename_i h2
  simp only [Bool.and_eq_true] at h2
  have k1 := hc 1 (by simpa [Bool.and_eq_true] using h2.1.2)
  have k2 := hc 2 (by simpa [Bool.and_eq_true] using h2.2)
  split
  ·refine ⟨by simp, by have := k2.1; show i + 3 ≤ s.size; omega, fun j h3 h4 => ?_⟩
   have : j = i + 1 ∨ j = i + 2 := by simp at h4; omega
   rcases this with rfl | rfl
   ·exact k1.2
   ·exact k2.2
  ·exact ⟨Nat.le_refl _, h, one⟩
 split
 ·rename_i h2
  simp only [Bool.and_eq_true] at h2
  have k1 := hc 1 (by simpa [Bool.and_eq_true] using h2.1.1.2)
  have k2 := hc 2 (by simpa [Bool.and_eq_true] using h2.1.2)
  have k3 := hc 3 (by simpa [Bool.and_eq_true] using h2.2)
  split
  ·refine ⟨by simp, by have := k3.1; show i + 4 ≤ s.size; omega, fun j h3 h4 => ?_⟩
   have : j = i + 1 ∨ j = i + 2 ∨ j = i + 3 := by simp at h4; omega
   rcases this with rfl | rfl | rfl
   ·exact k1.2
   ·exact k2.2
   ·exact k3.2
  ·exact ⟨Nat.le_refl _, h, one⟩
 ·exact ⟨Nat.le_refl _, h, one⟩

/-- a rune below 128 is its byte -/
theorem decode_small (s : ByteArray) (i : Nat) (h : i < s.size) : (s.get! i).toNat < 128 ∧ Utf8.decode s i = ((s.get! i).toNat, 1) ∨ 128 ≤ (s.get! i).toNat ∧ 128 ≤ (Utf8.decode s i).1 := by
 have hg : s.get! i = s[i]'h := get_at s i h
 by_cases hb : (s[i]'h).toNat < 128
 ·left
  rw [hg]
  exact ⟨hb, decode_ascii s i h hb⟩
 ·right
  rw [hg]
  exact ⟨by omega, (decode_high s i h (by omega)).1⟩

theorem decode_le' (s : ByteArray) (i : Nat) : (Utf8.decode s i).1 ≤ 2147483647 := decode_le s i

/-- where the levels end that lie before a place -/
theorem levels_snoc47 (x : T) : levels (x ++ [47]) = levels x ++ [[]] := by
 induction x with
 | nil => rfl
 | cons c x ih =>
  by_cases hc : c = 47
  ·subst hc; simp [levels, ih]
  ·obtain ⟨l, r, h1, h2⟩ := levels_cons c x hc
   obtain ⟨l', r', h1', h2'⟩ := levels_cons c (x ++ [47]) hc
   rw [List.cons_append, h2', h2]
   rw [ih, h1] at h1'
   simp only [List.cons_append, List.cons.injEq] at h1'
   rw [← h1'.1, ← h1'.2]; rfl
theorem levels_app (x y : T) (o : List T) (l : T) (hx : levels x = o ++ [l]) (hy : noSl y) : levels (x ++ y) = o ++ [l ++ y] := by
 induction x generalizing o l with
 | nil =>
  simp only [levels] at hx
  cases o with
  | nil => simp only [List.nil_append, List.cons.injEq, and_true] at hx; subst hx; simpa using levels_one y hy
  | cons a b => simp at hx
 | cons c x ih =>
  by_cases hc : c = 47
  ·subst hc
   simp only [List.cons_append, levels, if_true] at hx ⊢
   cases o with
   | nil => simp at hx; exact absurd hx.2 (levels_ne x)
   | cons a b =>
    simp only [List.cons_append, List.cons.injEq] at hx ⊢
    exact ⟨hx.1, ih b l hx.2⟩
  ·obtain ⟨l1, r1, h1, h2⟩ := levels_cons c x hc
   obtain ⟨l2, r2, h3, h4⟩ := levels_cons c (x ++ y) hc
   rw [List.cons_append, h4]
   rw [h2] at hx
   cases o with
   | nil =>
    simp only [List.nil_append, List.cons.injEq] at hx
    obtain ⟨rfl, rfl⟩ := hx
    have := ih [] l1 (by simpa using h1)
    rw [h3] at this
    simp only [List.nil_append, List.cons.injEq] at this
    simp [this.1, this.2]
   | cons a b =>
    simp only [List.cons_append, List.cons.injEq] at hx
    obtain ⟨rfl, rfl⟩ := hx
    have := ih (l1 :: b) l (by simpa using h1)
    rw [h3] at this
    simp only [List.cons_append, List.cons.injEq] at this
    simp [this.1, this.2]
end Cr
