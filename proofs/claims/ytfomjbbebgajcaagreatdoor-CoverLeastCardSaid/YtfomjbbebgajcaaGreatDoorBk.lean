/- crierkept.Book: its block and its lists' own rows, by labels: 399 the block, 400 + i row i. -/
import Derived.Test.YtfomjbbebgajcaaGreatDoorBx
namespace Go.Proofs.YtfomjbbebgajcaaGreatDoor.Rm
open Go.RowKit Go.Proofs.YtfomjbbebgajcaaGreatDoorW.PrintWords Go.Proofs.YtfomjbbebgajcaaGreatDoorW.PrintLast Go.Proofs.YtfomjbbebgajcaaGreatDoorW.PrintMore
set_option linter.unusedVariables false
set_option linter.unusedSimpArgs false
/-- row i = 8 * kind + field: Out Told Waits Note Fresh Mark Due From -/
def slot (i : Nat) : Nat := 4 + 9 * (i / 8) + i % 8
theorem slot_lt {i : Nat} (h : i < 168) : slot i < 193 := by unfold slot; omega
theorem slot_inj {i j : Nat} (h : slot i = slot j) : i = j := by unfold slot at h; omega
def Bl (x : Nat) : Prop := 399 ≤ x ∧ x < 568
structure Bok (et : Nat → TypeId) (tB : TypeId) (L : Nat → Nat) (base : Nat) (w : World) (g N : Nat) (cs : Array Value) (D : Nat → List Value) : Prop where
 blk : w.heap[g]? = some (.cells cs tB (0, 0))
 lab : L g = 399
 ge : base ≤ g
 size : cs.size = 193
 ne : ∀ i, i < 168 → et i ≠ tB
 row : ∀ i, i < 168 → ∃ V, cs[slot i]? = some V ∧ (D i).length ≤ N ∧ w.ownsRow base (et i) 1 V (D i).length (D i) ∧ ∀ k, V.ownBlock = some k → L k = 400 + i
section
variable {et : Nat → TypeId} {tB : TypeId} {L L' : Nat → Nat} {base : Nat} {w W wa : World} {g N : Nat} {cs : Array Value} {D : Nat → List Value} {X : Nat → Prop}
theorem Bok.step (h : Bok et tB L base w g N cs D) (k : Only X L w L' W) (hX : ∀ x, X x → ¬ Bl x) : Bok et tB L' base W g N cs D where
 blk := (k.keep g (blk_lt h.blk) (by rw [h.lab]; exact fun hx => hX _ hx ⟨by decide, by decide⟩)).trans h.blk
 lab := (k.lab g (blk_lt h.blk)).trans h.lab
 ge := h.ge
 size := h.size
 ne := h.ne
 row := fun i hi => by
  obtain ⟨V, h1, h2, h3, h4⟩ := h.row i hi
  refine ⟨V, h1, h2, own_move h3 (fun b hb => k.keep b (own_lt h3 b hb) (by rw [h4 b hb]; exact fun hx => hX _ hx ⟨by omega, by omega⟩)), fun b hb => ?_⟩
  rw [k.lab b (own_lt h3 b hb)]; exact h4 b hb
/-- one more at the end of row i: behind the append and the store -/
theorem Bok.push (h : Bok et tB L base w g N cs D) {i : Nat} (hi : i < 168) {V V' v : Value} (hV : cs[slot i]? = some V) (ha : w.grownBy wa V.ownBlock)
  (ho : wa.ownsRow base (et i) 1 V' ((D i).length + 1) (D i ++ [v])) (hat : V'.ownBlock = V.ownBlock ∨ ∃ b, V'.ownBlock = some b ∧ w.heap.size ≤ b) :
  Bok et tB (lab1 L w.heap.size (400 + i)) base (wa.setCell ⟨g, slot i, none⟩ V') g (N + 1) (cs.setIfInBounds (slot i) V') (fun j => if j = i then D i ++ [v] else D j) ∧
   Only Bl L w (lab1 L w.heap.size (400 + i)) (wa.setCell ⟨g, slot i, none⟩ V') := by
 have hgw : g < w.heap.size := blk_lt h.blk
 have hsa : w.heap.size ≤ wa.heap.size := ha.size
 obtain ⟨V0, hV0, hle, hov, hlv⟩ := h.row i hi
 obtain rfl : V0 = V := Option.some.inj (hV0.symm.trans hV)
 have hVlt : ∀ k, V0.ownBlock = some k → k < w.heap.size := own_lt hov
 have hgV : some g ≠ V0.ownBlock := own_ne hov h.blk (h.ne i hi)
 have hk1 : ∀ k, k < w.heap.size → some k ≠ V0.ownBlock → wa.heap[k]? = w.heap[k]? := fun k hk hv => ha.block k hk hv
 have hk3 : ∀ k, k ≠ g → (wa.setCell ⟨g, slot i, none⟩ V').heap[k]? = wa.heap[k]? := fun k hg => Below.heap_setCell _ _ _ _ hg
 have hVg : ∀ k, V'.ownBlock = some k → k ≠ g := fun k hk e => by
  subst e
  rcases hat with e | ⟨b, e, hb⟩
  ·rw [e] at hk; exact hgV hk.symm
  ·rw [e] at hk; obtain rfl := Option.some.inj hk; omega
 have hga : wa.heap[g]? = some (.cells cs tB (0, 0)) := (hk1 g hgw hgV).trans h.blk
 have hss : (wa.setCell ⟨g, slot i, none⟩ V').heap.size = wa.heap.size := by simp [World.setCell]
 refine ⟨⟨blk_set hga _ _, (lab1_old hgw).trans h.lab, h.ge, by simp [h.size], h.ne, fun j hj => ?_⟩, ⟨by omega, fun k hk hx => ?_, fun k hk => lab1_old hk⟩⟩
 ·by_cases hji : j = i
  ·subst hji
   refine ⟨V', by rw [Array.getElem?_setIfInBounds_self_of_lt (by rw [h.size]; exact slot_lt hi)], by simp; omega, ?_, fun k hk => ?_⟩
   ·simp only [if_true, List.length_append, List.length_cons, List.length_nil]
    exact own_move ho (fun k hk => hk3 k (hVg k hk))
   ·rcases hat with e | ⟨b, e, hb⟩
    ·rw [e] at hk; rw [lab1_old (hVlt k hk)]; exact hlv k hk
    ·rw [e] at hk; obtain rfl := Option.some.inj hk; exact lab1_new hb
  ·obtain ⟨U, h1, h2, h3, h4⟩ := h.row j hj
   have hne : slot i ≠ slot j := fun e => hji (slot_inj e).symm
   refine ⟨U, by rw [Array.getElem?_setIfInBounds_ne hne]; exact h1, by simp only [if_neg hji]; omega, ?_, fun k hk => ?_⟩
   ·simp only [if_neg hji]
    refine own_move h3 (fun k hk => ?_)
    have hkl := own_lt h3 k hk
    have hkg : k ≠ g := fun e => own_ne h3 h.blk (h.ne j hj) (by rw [← e]; exact hk.symm)
    have hkV : some k ≠ V0.ownBlock := fun e => by
     have a1 := hlv k e.symm
     have a2 := h4 k hk
     omega
    exact (hk3 k hkg).trans (hk1 k hkl hkV)
   ·rw [lab1_old (own_lt h3 k hk)]; exact h4 k hk
 ·have hkg : k ≠ g := fun e => hx (by rw [e, h.lab]; exact ⟨by decide, by decide⟩)
  have hkV : some k ≠ V0.ownBlock := fun e => hx (by rw [hlv k e.symm]; exact ⟨by omega, by omega⟩)
  exact (hk3 k hkg).trans (hk1 k hk hkV)
/-- row i is set to nil; the old row gets a label of its own -/
def relb (L : Nat → Nat) (V : Value) (t : Nat) : Nat → Nat := fun k => if V.ownBlock = some k then t else L k
theorem Bok.clear (h : Bok et tB L base w g N cs D) {i : Nat} (hi : i < 168) {V : Value} (hV : cs[slot i]? = some V) {t : Nat} (ht : ¬ Bl t) (ht0 : t ≠ 0) :
  Bok et tB (relb L V t) base (w.setCell ⟨g, slot i, none⟩ (.slice none 0 0)) g N (cs.setIfInBounds (slot i) (.slice none 0 0)) (fun j => if j = i then [] else D j) ∧
   (w.setCell ⟨g, slot i, none⟩ (.slice none 0 0)).ownsRow base (et i) 1 V (D i).length (D i) ∧ (∀ k, V.ownBlock = some k → relb L V t k = t) ∧
   (∀ k, k ≠ g → (w.setCell ⟨g, slot i, none⟩ (.slice none 0 0)).heap[k]? = w.heap[k]?) ∧ (∀ k, ¬ Bl (L k) → relb L V t k = L k) := by
 obtain ⟨V0, hV0, hle, hov, hlv⟩ := h.row i hi
 obtain rfl : V0 = V := Option.some.inj (hV0.symm.trans hV)
 have hgV : some g ≠ V0.ownBlock := own_ne hov h.blk (h.ne i hi)
 have hk3 : ∀ k, k ≠ g → (w.setCell ⟨g, slot i, none⟩ (.slice none 0 0)).heap[k]? = w.heap[k]? := fun k hg => Below.heap_setCell _ _ _ _ hg
 refine ⟨⟨blk_set h.blk _ _, (if_neg (fun e => hgV e.symm)).trans h.lab, h.ge, by simp [h.size], h.ne, fun j hj => ?_⟩, own_move hov (fun k hk => hk3 k (fun e => hgV (by rw [← e]; exact hk.symm))), fun k hk => if_pos hk, hk3, fun k hk => if_neg (fun e => hk (by rw [hlv k e]; exact ⟨by omega, by omega⟩))⟩
 by_cases hji : j = i
 ·subst hji
  refine ⟨.slice none 0 0, by rw [Array.getElem?_setIfInBounds_self_of_lt (by rw [h.size]; exact slot_lt hi)], by simp, by simp only [if_true]; exact own_nil _ _ _ _, fun k hk => by simp [Value.ownBlock] at hk⟩
 ·obtain ⟨U, h1, h2, h3, h4⟩ := h.row j hj
  have hne : slot i ≠ slot j := fun e => hji (slot_inj e).symm
  refine ⟨U, by rw [Array.getElem?_setIfInBounds_ne hne]; exact h1, by simp only [if_neg hji]; exact h2, ?_, fun k hk => ?_⟩
  ·simp only [if_neg hji]
   exact own_move h3 (fun k hk => hk3 k (fun e => own_ne h3 h.blk (h.ne j hj) (by rw [← e]; exact hk.symm)))
  ·unfold relb
   rw [if_neg (fun e => by have a1 := hlv k e; have a2 := h4 k hk; omega)]
   exact h4 k hk
/-- row i is set to nil; nothing is asked of the old row -/
theorem Bok.clear0 (h : Bok et tB L base w g N cs D) {i : Nat} (hi : i < 168) :
  Bok et tB L base (w.setCell ⟨g, slot i, none⟩ (.slice none 0 0)) g N (cs.setIfInBounds (slot i) (.slice none 0 0)) (fun j => if j = i then [] else D j) ∧ Only Bl L w L (w.setCell ⟨g, slot i, none⟩ (.slice none 0 0)) := by
 have hk3 : ∀ k, k ≠ g → (w.setCell ⟨g, slot i, none⟩ (.slice none 0 0)).heap[k]? = w.heap[k]? := fun k hg => Below.heap_setCell _ _ _ _ hg
 refine ⟨⟨blk_set h.blk _ _, h.lab, h.ge, by simp [h.size], h.ne, fun j hj => ?_⟩, Only.set g _ _ (by rw [h.lab]; exact ⟨by decide, by decide⟩)⟩
 by_cases hji : j = i
 ·subst hji
  refine ⟨.slice none 0 0, by rw [Array.getElem?_setIfInBounds_self_of_lt (by rw [h.size]; exact slot_lt hi)], by simp, by simp only [if_true]; exact own_nil _ _ _ _, fun k hk => by simp [Value.ownBlock] at hk⟩
 ·obtain ⟨U, h1, h2, h3, h4⟩ := h.row j hj
  have hne : slot i ≠ slot j := fun e => hji (slot_inj e).symm
  refine ⟨U, by rw [Array.getElem?_setIfInBounds_ne hne]; exact h1, by simp only [if_neg hji]; exact h2, ?_, h4⟩
  simp only [if_neg hji]
  exact own_move h3 (fun k hk => hk3 k (fun e => own_ne h3 h.blk (h.ne j hj) (by rw [← e]; exact hk.symm)))
/-- a cell that is no row -/
theorem Bok.scalar (h : Bok et tB L base w g N cs D) {s : Nat} (u : Value) (hs : ∀ i, i < 168 → slot i ≠ s) :
  Bok et tB L base (w.setCell ⟨g, s, none⟩ u) g N (cs.setIfInBounds s u) D ∧ Only Bl L w L (w.setCell ⟨g, s, none⟩ u) := by
 have hk3 : ∀ k, k ≠ g → (w.setCell ⟨g, s, none⟩ u).heap[k]? = w.heap[k]? := fun k hg => Below.heap_setCell _ _ _ _ hg
 refine ⟨⟨blk_set h.blk _ _, h.lab, h.ge, by simp [h.size], h.ne, fun j hj => ?_⟩, Only.set g s u (by rw [h.lab]; exact ⟨by decide, by decide⟩)⟩
 obtain ⟨U, h1, h2, h3, h4⟩ := h.row j hj
 exact ⟨U, by rw [Array.getElem?_setIfInBounds_ne (fun e => hs j hj e.symm)]; exact h1, h2, own_move h3 (fun k hk => hk3 k (fun e => own_ne h3 h.blk (h.ne j hj) (by rw [← e]; exact hk.symm))), h4⟩
theorem scalar_slot {s : Nat} (h : s < 4 ∨ s % 9 = 3) : ∀ i, i < 168 → slot i ≠ s := fun i hi e => by unfold slot at e; omega
/-- a fresh book -/
theorem Bok.zero {Z : Array Value} (hb : w.heap[g]? = some (.cells Z tB (0, 0))) (hl : L g = 399) (hge : base ≤ g) (hz : Z.size = 193) (hne : ∀ i, i < 168 → et i ≠ tB) (hn : ∀ i, i < 168 → Z[slot i]? = some (.slice none 0 0)) : Bok et tB L base w g 0 Z (fun _ => []) :=
 ⟨hb, hl, hge, hz, hne, fun i hi => ⟨_, hn i hi, Nat.le_refl _, own_nil _ _ _ _, fun k hk => by simp [Value.ownBlock] at hk⟩⟩
end

end Go.Proofs.YtfomjbbebgajcaaGreatDoor.Rm
/- crierkept.Book: its scalars; what waits and what is out, kind by kind. -/
namespace Go.Proofs.YtfomjbbebgajcaaGreatDoor.Rm
open Go.RowKit Go.Proofs.YtfomjbbebgajcaaGreatDoorW.PrintWords Go.Proofs.YtfomjbbebgajcaaGreatDoorW.PrintLast Go.Proofs.YtfomjbbebgajcaaGreatDoorW.PrintMore
set_option linter.unusedVariables false
set_option linter.unusedSimpArgs false
structure Sc (cs : Array Value) (now bad : Bool) (turn deep : Int) (seen : Nat → Int) : Prop where
 now : cs[0]? = some (.bool now)
 bad : cs[1]? = some (.bool bad)
 turn : cs[2]? = some (.int .i64 turn)
 deep : cs[3]? = some (.int .i64 deep)
 seen : ∀ k, k < 21 → cs[12 + 9 * k]? = some (.int .i64 (seen k))
section
variable {cs : Array Value} {now bad : Bool} {turn deep : Int} {seen : Nat → Int}
theorem Sc.row (h : Sc cs now bad turn deep seen) (i : Nat) (V : Value) (hi : i < 168) : Sc (cs.setIfInBounds (slot i) V) now bad turn deep seen := by
 have hs : ∀ s, (s < 4 ∨ s % 9 = 3) → slot i ≠ s := fun s hs => scalar_slot hs i hi
 refine ⟨?_, ?_, ?_, ?_, fun k hk => ?_⟩
 ·rw [Array.getElem?_setIfInBounds_ne (hs 0 (by omega))]; exact h.now
 ·rw [Array.getElem?_setIfInBounds_ne (hs 1 (by omega))]; exact h.bad
 ·rw [Array.getElem?_setIfInBounds_ne (hs 2 (by omega))]; exact h.turn
 ·rw [Array.getElem?_setIfInBounds_ne (hs 3 (by omega))]; exact h.deep
 ·rw [Array.getElem?_setIfInBounds_ne (hs (12 + 9 * k) (by omega))]; exact h.seen k hk
theorem Sc.set_bad (h : Sc cs now bad turn deep seen) (b : Bool) : Sc (cs.setIfInBounds 1 (.bool b)) now b turn deep seen := by
 have hl : 1 < cs.size := by have := (Array.getElem?_eq_some_iff.1 h.bad).1; omega
 refine ⟨?_, Array.getElem?_setIfInBounds_self_of_lt hl, ?_, ?_, fun k hk => ?_⟩
 ·rw [Array.getElem?_setIfInBounds_ne (by omega)]; exact h.now
 ·rw [Array.getElem?_setIfInBounds_ne (by omega)]; exact h.turn
 ·rw [Array.getElem?_setIfInBounds_ne (by omega)]; exact h.deep
 ·rw [Array.getElem?_setIfInBounds_ne (by omega)]; exact h.seen k hk
theorem Sc.set_turn (h : Sc cs now bad turn deep seen) (n : Int) : Sc (cs.setIfInBounds 2 (.int .i64 n)) now bad n deep seen := by
 have hl : 2 < cs.size := by have := (Array.getElem?_eq_some_iff.1 h.turn).1; omega
 refine ⟨?_, ?_, Array.getElem?_setIfInBounds_self_of_lt hl, ?_, fun k hk => ?_⟩
 ·rw [Array.getElem?_setIfInBounds_ne (by omega)]; exact h.now
 ·rw [Array.getElem?_setIfInBounds_ne (by omega)]; exact h.bad
 ·rw [Array.getElem?_setIfInBounds_ne (by omega)]; exact h.deep
 ·rw [Array.getElem?_setIfInBounds_ne (by omega)]; exact h.seen k hk
theorem Sc.set_deep (h : Sc cs now bad turn deep seen) (n : Int) : Sc (cs.setIfInBounds 3 (.int .i64 n)) now bad turn n seen := by
 have hl : 3 < cs.size := by have := (Array.getElem?_eq_some_iff.1 h.deep).1; omega
 refine ⟨?_, ?_, ?_, Array.getElem?_setIfInBounds_self_of_lt hl, fun k hk => ?_⟩
 ·rw [Array.getElem?_setIfInBounds_ne (by omega)]; exact h.now
 ·rw [Array.getElem?_setIfInBounds_ne (by omega)]; exact h.bad
 ·rw [Array.getElem?_setIfInBounds_ne (by omega)]; exact h.turn
 ·rw [Array.getElem?_setIfInBounds_ne (by omega)]; exact h.seen k hk
theorem Sc.set_seen (h : Sc cs now bad turn deep seen) {q : Nat} (hq : q < 21) (n : Int) : Sc (cs.setIfInBounds (12 + 9 * q) (.int .i64 n)) now bad turn deep (fun k => if k = q then n else seen k) := by
 have hl : 12 + 9 * q < cs.size := (Array.getElem?_eq_some_iff.1 (h.seen q hq)).1
 refine ⟨?_, ?_, ?_, ?_, fun k hk => ?_⟩
 ·rw [Array.getElem?_setIfInBounds_ne (by omega)]; exact h.now
 ·rw [Array.getElem?_setIfInBounds_ne (by omega)]; exact h.bad
 ·rw [Array.getElem?_setIfInBounds_ne (by omega)]; exact h.turn
 ·rw [Array.getElem?_setIfInBounds_ne (by omega)]; exact h.deep
 ·by_cases e : k = q
  ·subst e; rw [if_pos rfl]; exact Array.getElem?_setIfInBounds_self_of_lt hl
  ·rw [if_neg e, Array.getElem?_setIfInBounds_ne (by omega)]; exact h.seen k hk
end
/-- a list that was handed out: a row of its own, or empty and without room -/
def Lst {α : Type} (d : Kd α) (te base : Nat) (v : Value) (xs : List α) (t : Nat) (L : Nat → Nat) (W : World) : Prop := Ow d te base v xs t L W ∨ (xs = [] ∧ ∃ A, v = .slice A 0 0)
/-- a copy of it that stays -/
def Cpy {α : Type} (d : Kd α) (v : Value) (xs : List α) (L : Nat → Nat) (W : World) : Prop := ∃ A c, v = .slice A xs.length c ∧ xs.length ≤ c ∧ Firm L W (fun W' => d.C W' A xs.length xs)
/-- the block in which a list has places -/
def rmb : Value → Option Nat
 | .slice (some a) _ (_ + 1) => some a.block
 | _ => none
section
variable {α : Type} {d : Kd α} {te base t u : Nat} {v : Value} {xs : List α} {L L' : Nat → Nat} {W W' : World} {X : Nat → Prop}
theorem rmb_own {b : Nat} (h : rmb v = some b) : v.ownBlock = some b := by
 unfold rmb at h
 split at h
 ·simpa [Value.ownBlock] using h
 ·cases h
theorem Cpy.step (h : Cpy d v xs L W) (k : Only X L W L' W') (h0 : ¬ X 0) : Cpy d v xs L' W' := by
 obtain ⟨A, c, e, hc, hf⟩ := h
 exact ⟨A, c, e, hc, hf.only k h0⟩
end
/-- place j of a row, as the walk reads it -/
theorem own_place {w : World} {base : Nat} {e : TypeId} {V : Value} {xs : List Value} (h : w.ownsRow base e 1 V xs.length xs) {j : Nat} {v : Value} (hj : xs[j]? = some v) : ∃ b c, V = .slice (some ⟨b, 0, none⟩) xs.length c ∧ xs.length ≤ c ∧ b < w.heap.size ∧ w.cell? ⟨b, j, none⟩ = some v := by
 have hl := (List.getElem?_eq_some_iff.1 hj).1
 obtain ⟨g, c, e1, h1, h2⟩ := h.form (by omega)
 refine ⟨g, c, e1, own_le (by rw [← e1]; exact h), own_lt h g (by rw [e1]; rfl), ?_⟩
 have := h.cells (g := g) (by rw [e1]; rfl) j v hj
 rwa [add_plain] at this
/-- the lists of a kind that wait, their notes, what they hold -/
structure Wt {α : Type} (d : Kd α) (te base t : Nat) (L : Nat → Nat) (W : World) (vs ns : List Value) (xss : List (List α)) : Prop where
 lv : vs.length = xss.length
 ln : ns.length = xss.length
 ls : ∀ (j : Nat) (v : Value) (xs : List α), vs[j]? = some v → xss[j]? = some xs → Lst d te base v xs t L W
 cp : ∀ (j : Nat) (v : Value) (xs : List α), ns[j]? = some v → xss[j]? = some xs → Cpy d v xs L W
 ap : ∀ (j j' : Nat) (v v' : Value) (b : Nat), vs[j]? = some v → vs[j']? = some v' → rmb v = some b → rmb v' = some b → j = j'
/-- lists that are out, and what they were told -/
structure Ou {α : Type} (d : Kd α) (te base t : Nat) (L : Nat → Nat) (W : World) (vs ns : List Value) (xss : List (List α)) : Prop where
 lv : vs.length = xss.length
 ln : ns.length = xss.length
 rd : ∀ (j : Nat) (v : Value) (xs : List α), vs[j]? = some v → xss[j]? = some xs → ∃ A c, v = .slice A xs.length c ∧ xs.length ≤ c ∧ ∀ (L' : Nat → Nat) (W' : World), (∀ k, k < W.heap.size → (L k = 0 ∨ L k = t) → W'.heap[k]? = W.heap[k]? ∧ L' k = L k) → W.heap.size ≤ W'.heap.size → d.C W' A xs.length xs
 cp : ∀ (j : Nat) (v : Value) (xs : List α), ns[j]? = some v → xss[j]? = some xs → Cpy d v xs L W
section
variable {α : Type} {d : Kd α} {te base t : Nat} {vs ns : List Value} {xss : List (List α)} {L L' : Nat → Nat} {W W' : World} {X : Nat → Prop}
end

end Go.Proofs.YtfomjbbebgajcaaGreatDoor.Rm
