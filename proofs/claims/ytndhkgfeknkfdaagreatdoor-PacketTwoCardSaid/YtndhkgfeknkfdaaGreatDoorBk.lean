/- crierkept.Book: its block and its lists' own rows, by labels: 399 the block, 400 + i row i. -/
import Derived.Test.YtndhkgfeknkfdaaGreatDoorBx
namespace Go.Proofs.YtndhkgfeknkfdaaGreatDoor.Rm
open Go.RowKit Go.Proofs.YtndhkgfeknkfdaaGreatDoorW.PrintWords Go.Proofs.YtndhkgfeknkfdaaGreatDoorW.PrintLast Go.Proofs.YtndhkgfeknkfdaaGreatDoorW.PrintMore
set_option linter.unusedVariables false
set_option linter.unusedSimpArgs false
/-- row i = 8 * kind + field: Out Told Waits Note Fresh Mark Due From -/
def slot (i : Nat) : Nat := 4 + 9 * (i / 8) + i % 8
theorem slot_lt {i : Nat} (h : i < 168) : slot i < 193 := by unfold slot; omega
theorem slot_inj {i j : Nat} (h : slot i = slot j) : i = j := by unfold slot at h; omega
def Bl (x : Nat) : Prop := 399 ≤ x ∧ x < 568
structure Bok (et : Nat → TypeId) (tB : TypeId) (L : Nat → Nat) (base : Nat) (w : World) (g N : Nat) (cs : Array Value) (D : Nat → List Value) : Prop where
 blk : w.heap[g]? = some (.cells cs tB (0, 0))
 lab : L g = 399
 ge : base ≤ g
 size : cs.size = 193
 ne : ∀ i, i < 168 → et i ≠ tB
 row : ∀ i, i < 168 → ∃ V, cs[slot i]? = some V ∧ (D i).length ≤ N ∧ w.ownsRow base (et i) 1 V (D i).length (D i) ∧ ∀ k, V.ownBlock = some k → L k = 400 + i
section
variable {et : Nat → TypeId} {tB : TypeId} {L L' : Nat → Nat} {base : Nat} {w W wa : World} {g N : Nat} {cs : Array Value} {D : Nat → List Value} {X : Nat → Prop}
theorem Bok.step (h : Bok et tB L base w g N cs D) (k : Only X L w L' W) (hX : ∀ x, X x → ¬ Bl x) : Bok et tB L' base W g N cs D where
 blk := (k.keep g (blk_lt h.blk) (by rw [h.lab]; exact fun hx => hX _ hx ⟨by decide, by decide⟩)).trans h.blk
 lab := (k.lab g (blk_lt h.blk)).trans h.lab
 ge := h.ge
 size := h.size
 ne := h.ne
 row := fun i hi => by
  obtain ⟨V, h1, h2, h3, h4⟩ := h.row i hi
  refine ⟨V, h1, h2, own_move h3 (fun b hb => k.keep b (own_lt h3 b hb) (by rw [h4 b hb]; exact fun hx => hX _ hx ⟨by omega, by omega⟩)), fun b hb => ?_⟩
  rw [k.lab b (own_lt h3 b hb)]; exact h4 b hb
theorem Bok.more {N' : Nat} (h : Bok et tB L base w g N cs D) (hN : N ≤ N') : Bok et tB L base w g N' cs D := ⟨h.blk, h.lab, h.ge, h.size, h.ne, fun i hi => by
 obtain ⟨V, h1, h2, h3, h4⟩ := h.row i hi
 exact ⟨V, h1, Nat.le_trans h2 hN, h3, h4⟩⟩
/-- one more at the end of row i: behind the append and the store -/
theorem Bok.push (h : Bok et tB L base w g N cs D) {i : Nat} (hi : i < 168) {V V' v : Value} (hV : cs[slot i]? = some V) (ha : w.grownBy wa V.ownBlock)
  (ho : wa.ownsRow base (et i) 1 V' ((D i).length + 1) (D i ++ [v])) (hat : V'.ownBlock = V.ownBlock ∨ ∃ b, V'.ownBlock = some b ∧ w.heap.size ≤ b) :
  Bok et tB (lab1 L w.heap.size (400 + i)) base (wa.setCell ⟨g, slot i, none⟩ V') g (N + 1) (cs.setIfInBounds (slot i) V') (fun j => if j = i then D i ++ [v] else D j) ∧
   Only Bl L w (lab1 L w.heap.size (400 + i)) (wa.setCell ⟨g, slot i, none⟩ V') := by
 have hgw : g < w.heap.size := blk_lt h.blk
 have hsa : w.heap.size ≤ wa.heap.size := ha.size
 obtain ⟨V0, hV0, hle, hov, hlv⟩ := h.row i hi
 obtain rfl : V0 = V := Option.some.inj (hV0.symm.trans hV)
 have hVlt : ∀ k, V0.ownBlock = some k → k < w.heap.size := own_lt hov
 have hgV : some g ≠ V0.ownBlock := own_ne hov h.blk (h.ne i hi)
 have hk1 : ∀ k, k < w.heap.size → some k ≠ V0.ownBlock → wa.heap[k]? = w.heap[k]? := fun k hk hv => ha.block k hk hv
 have hk3 : ∀ k, k ≠ g → (wa.setCell ⟨g, slot i, none⟩ V').heap[k]? = wa.heap[k]? := fun k hg => Below.heap_setCell _ _ _ _ hg
 have hVg : ∀ k, V'.ownBlock = some k → k ≠ g := fun k hk e => by
  subst e
  rcases hat with e | ⟨b, e, hb⟩
  ·rw [e] at hk; exact hgV hk.symm
  ·rw [e] at hk; obtain rfl := Option.some.inj hk; omega
 have hga : wa.heap[g]? = some (.cells cs tB (0, 0)) := (hk1 g hgw hgV).trans h.blk
 have hss : (wa.setCell ⟨g, slot i, none⟩ V').heap.size = wa.heap.size := by simp [World.setCell]
 refine ⟨⟨blk_set hga _ _, (lab1_old hgw).trans h.lab, h.ge, by simp [h.size], h.ne, fun j hj => ?_⟩, ⟨by omega, fun k hk hx => ?_, fun k hk => lab1_old hk⟩⟩
 ·by_cases hji : j = i
  ·subst hji
   refine ⟨V', by rw [Array.getElem?_setIfInBounds_self_of_lt (by rw [h.size]; exact slot_lt hi)], by simp; omega, ?_, fun k hk => ?_⟩
   ·simp only [if_true, List.length_append, List.length_cons, List.length_nil]
    exact own_move ho (fun k hk => hk3 k (hVg k hk))
   ·rcases hat with e | ⟨b, e, hb⟩
    ·rw [e] at hk; rw [lab1_old (hVlt k hk)]; exact hlv k hk
    ·rw [e] at hk; obtain rfl := Option.some.inj hk; exact lab1_new hb
  ·obtain ⟨U, h1, h2, h3, h4⟩ := h.row j hj
   have hne : slot i ≠ slot j := fun e => hji (slot_inj e).symm
   refine ⟨U, by rw [Array.getElem?_setIfInBounds_ne hne]; exact h1, by simp only [if_neg hji]; omega, ?_, fun k hk => ?_⟩
   ·simp only [if_neg hji]
    refine own_move h3 (fun k hk => ?_)
    have hkl := own_lt h3 k hk
    have hkg : k ≠ g := fun e => own_ne h3 h.blk (h.ne j hj) (by rw [← e]; exact hk.symm)
    have hkV : some k ≠ V0.ownBlock := fun e => by
     have a1 := hlv k e.symm
     have a2 := h4 k hk
     omega
    exact (hk3 k hkg).trans (hk1 k hkl hkV)
   ·rw [lab1_old (own_lt h3 k hk)]; exact h4 k hk
 ·have hkg : k ≠ g := fun e => hx (by rw [e, h.lab]; exact ⟨by decide, by decide⟩)
  have hkV : some k ≠ V0.ownBlock := fun e => hx (by rw [hlv k e.symm]; exact ⟨by omega, by omega⟩)
  exact (hk3 k hkg).trans (hk1 k hk hkV)
/-- row i is set to nil; the old row gets a label of its own -/
def relb (L : Nat → Nat) (V : Value) (t : Nat) : Nat → Nat := fun k => if V.ownBlock = some k then t else L k
theorem Bok.clear (h : Bok et tB L base w g N cs D) {i : Nat} (hi : i < 168) {V : Value} (hV : cs[slot i]? = some V) {t : Nat} (ht : ¬ Bl t) (ht0 : t ≠ 0) :
  Bok et tB (relb L V t) base (w.setCell ⟨g, slot i, none⟩ (.slice none 0 0)) g N (cs.setIfInBounds (slot i) (.slice none 0 0)) (fun j => if j = i then [] else D j) ∧
   (w.setCell ⟨g, slot i, none⟩ (.slice none 0 0)).ownsRow base (et i) 1 V (D i).length (D i) ∧ (∀ k, V.ownBlock = some k → relb L V t k = t) ∧
   (∀ k, k ≠ g → (w.setCell ⟨g, slot i, none⟩ (.slice none 0 0)).heap[k]? = w.heap[k]?) ∧ (∀ k, ¬ Bl (L k) → relb L V t k = L k) := by
 obtain ⟨V0, hV0, hle, hov, hlv⟩ := h.row i hi
 obtain rfl : V0 = V := Option.some.inj (hV0.symm.trans hV)
 have hgV : some g ≠ V0.ownBlock := own_ne hov h.blk (h.ne i hi)
 have hk3 : ∀ k, k ≠ g → (w.setCell ⟨g, slot i, none⟩ (.slice none 0 0)).heap[k]? = w.heap[k]? := fun k hg => Below.heap_setCell _ _ _ _ hg
 refine ⟨⟨blk_set h.blk _ _, (if_neg (fun e => hgV e.symm)).trans h.lab, h.ge, by simp [h.size], h.ne, fun j hj => ?_⟩, own_move hov (fun k hk => hk3 k (fun e => hgV (by rw [← e]; exact hk.symm))), fun k hk => if_pos hk, hk3, fun k hk => if_neg (fun e => hk (by rw [hlv k e]; exact ⟨by omega, by omega⟩))⟩
 by_cases hji : j = i
 ·subst hji
  refine ⟨.slice none 0 0, by rw [Array.getElem?_setIfInBounds_self_of_lt (by rw [h.size]; exact slot_lt hi)], by simp, by simp only [if_true]; exact own_nil _ _ _ _, fun k hk => by simp [Value.ownBlock] at hk⟩
 ·obtain ⟨U, h1, h2, h3, h4⟩ := h.row j hj
  have hne : slot i ≠ slot j := fun e => hji (slot_inj e).symm
  refine ⟨U, by rw [Array.getElem?_setIfInBounds_ne hne]; exact h1, by simp only [if_neg hji]; exact h2, ?_, fun k hk => ?_⟩
  ·simp only [if_neg hji]
   exact own_move h3 (fun k hk => hk3 k (fun e => own_ne h3 h.blk (h.ne j hj) (by rw [← e]; exact hk.symm)))
  ·unfold relb
   rw [if_neg (fun e => by have a1 := hlv k e; have a2 := h4 k hk; omega)]
   exact h4 k hk
/-- row i is set to nil; nothing is asked of the old row -/
theorem Bok.clear0 (h : Bok et tB L base w g N cs D) {i : Nat} (hi : i < 168) :
  Bok et tB L base (w.setCell ⟨g, slot i, none⟩ (.slice none 0 0)) g N (cs.setIfInBounds (slot i) (.slice none 0 0)) (fun j => if j = i then [] else D j) ∧ Only Bl L w L (w.setCell ⟨g, slot i, none⟩ (.slice none 0 0)) := by
 have hk3 : ∀ k, k ≠ g → (w.setCell ⟨g, slot i, none⟩ (.slice none 0 0)).heap[k]? = w.heap[k]? := fun k hg => Below.heap_setCell _ _ _ _ hg
 refine ⟨⟨blk_set h.blk _ _, h.lab, h.ge, by simp [h.size], h.ne, fun j hj => ?_⟩, Only.set g _ _ (by rw [h.lab]; exact ⟨by decide, by decide⟩)⟩
 by_cases hji : j = i
 ·subst hji
  refine ⟨.slice none 0 0, by rw [Array.getElem?_setIfInBounds_self_of_lt (by rw [h.size]; exact slot_lt hi)], by simp, by simp only [if_true]; exact own_nil _ _ _ _, fun k hk => by simp [Value.ownBlock] at hk⟩
 ·obtain ⟨U, h1, h2, h3, h4⟩ := h.row j hj
  have hne : slot i ≠ slot j := fun e => hji (slot_inj e).symm
  refine ⟨U, by rw [Array.getElem?_setIfInBounds_ne hne]; exact h1, by simp only [if_neg hji]; exact h2, ?_, h4⟩
  simp only [if_neg hji]
  exact own_move h3 (fun k hk => hk3 k (fun e => own_ne h3 h.blk (h.ne j hj) (by rw [← e]; exact hk.symm)))
/-- a cell that is no row -/
theorem Bok.scalar (h : Bok et tB L base w g N cs D) {s : Nat} (u : Value) (hs : ∀ i, i < 168 → slot i ≠ s) :
  Bok et tB L base (w.setCell ⟨g, s, none⟩ u) g N (cs.setIfInBounds s u) D ∧ Only Bl L w L (w.setCell ⟨g, s, none⟩ u) := by
 have hk3 : ∀ k, k ≠ g → (w.setCell ⟨g, s, none⟩ u).heap[k]? = w.heap[k]? := fun k hg => Below.heap_setCell _ _ _ _ hg
 refine ⟨⟨blk_set h.blk _ _, h.lab, h.ge, by simp [h.size], h.ne, fun j hj => ?_⟩, Only.set g s u (by rw [h.lab]; exact ⟨by decide, by decide⟩)⟩
 obtain ⟨U, h1, h2, h3, h4⟩ := h.row j hj
 exact ⟨U, by rw [Array.getElem?_setIfInBounds_ne (fun e => hs j hj e.symm)]; exact h1, h2, own_move h3 (fun k hk => hk3 k (fun e => own_ne h3 h.blk (h.ne j hj) (by rw [← e]; exact hk.symm))), h4⟩
theorem scalar_slot {s : Nat} (h : s < 4 ∨ s % 9 = 3) : ∀ i, i < 168 → slot i ≠ s := fun i hi e => by unfold slot at e; omega
/-- a fresh book -/
theorem Bok.zero {Z : Array Value} (hb : w.heap[g]? = some (.cells Z tB (0, 0))) (hl : L g = 399) (hge : base ≤ g) (hz : Z.size = 193) (hne : ∀ i, i < 168 → et i ≠ tB) (hn : ∀ i, i < 168 → Z[slot i]? = some (.slice none 0 0)) : Bok et tB L base w g 0 Z (fun _ => []) :=
 ⟨hb, hl, hge, hz, hne, fun i hi => ⟨_, hn i hi, Nat.le_refl _, own_nil _ _ _ _, fun k hk => by simp [Value.ownBlock] at hk⟩⟩
end

end Go.Proofs.YtndhkgfeknkfdaaGreatDoor.Rm
