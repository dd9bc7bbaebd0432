/- crierkept.Book: its scalars; what waits and what is out, kind by kind. -/
import Derived.Test.YtndhkgfeknkfdaaGreatDoorBk
namespace Go.Proofs.YtndhkgfeknkfdaaGreatDoor.Rm
open Go.RowKit Go.Proofs.YtndhkgfeknkfdaaGreatDoorW.PrintWords Go.Proofs.YtndhkgfeknkfdaaGreatDoorW.PrintLast Go.Proofs.YtndhkgfeknkfdaaGreatDoorW.PrintMore
set_option linter.unusedVariables false
set_option linter.unusedSimpArgs false
structure Sc (cs : Array Value) (now bad : Bool) (turn deep : Int) (seen : Nat → Int) : Prop where
 now : cs[0]? = some (.bool now)
 bad : cs[1]? = some (.bool bad)
 turn : cs[2]? = some (.int .i64 turn)
 deep : cs[3]? = some (.int .i64 deep)
 seen : ∀ k, k < 21 → cs[12 + 9 * k]? = some (.int .i64 (seen k))
section
variable {cs : Array Value} {now bad : Bool} {turn deep : Int} {seen : Nat → Int}
theorem Sc.row (h : Sc cs now bad turn deep seen) (i : Nat) (V : Value) (hi : i < 168) : Sc (cs.setIfInBounds (slot i) V) now bad turn deep seen := by
 have hs : ∀ s, (s < 4 ∨ s % 9 = 3) → slot i ≠ s := fun s hs => scalar_slot hs i hi
 refine ⟨?_, ?_, ?_, ?_, fun k hk => ?_⟩
 ·rw [Array.getElem?_setIfInBounds_ne (hs 0 (by omega))]; exact h.now
 ·rw [Array.getElem?_setIfInBounds_ne (hs 1 (by omega))]; exact h.bad
 ·rw [Array.getElem?_setIfInBounds_ne (hs 2 (by omega))]; exact h.turn
 ·rw [Array.getElem?_setIfInBounds_ne (hs 3 (by omega))]; exact h.deep
 ·rw [Array.getElem?_setIfInBounds_ne (hs (12 + 9 * k) (by omega))]; exact h.seen k hk
theorem Sc.set_bad (h : Sc cs now bad turn deep seen) (b : Bool) : Sc (cs.setIfInBounds 1 (.bool b)) now b turn deep seen := by
 have hl : 1 < cs.size := by have := (Array.getElem?_eq_some_iff.1 h.bad).1; omega
 refine ⟨?_, Array.getElem?_setIfInBounds_self_of_lt hl, ?_, ?_, fun k hk => ?_⟩
 ·rw [Array.getElem?_setIfInBounds_ne (by omega)]; exact h.now
 ·rw [Array.getElem?_setIfInBounds_ne (by omega)]; exact h.turn
 ·rw [Array.getElem?_setIfInBounds_ne (by omega)]; exact h.deep
 ·rw [Array.getElem?_setIfInBounds_ne (by omega)]; exact h.seen k hk
theorem Sc.set_turn (h : Sc cs now bad turn deep seen) (n : Int) : Sc (cs.setIfInBounds 2 (.int .i64 n)) now bad n deep seen := by
 have hl : 2 < cs.size := by have := (Array.getElem?_eq_some_iff.1 h.turn).1; omega
 refine ⟨?_, ?_, Array.getElem?_setIfInBounds_self_of_lt hl, ?_, fun k hk => ?_⟩
 ·rw [Array.getElem?_setIfInBounds_ne (by omega)]; exact h.now
 ·rw [Array.getElem?_setIfInBounds_ne (by omega)]; exact h.bad
 ·rw [Array.getElem?_setIfInBounds_ne (by omega)]; exact h.deep
 ·rw [Array.getElem?_setIfInBounds_ne (by omega)]; exact h.seen k hk
theorem Sc.set_deep (h : Sc cs now bad turn deep seen) (n : Int) : Sc (cs.setIfInBounds 3 (.int .i64 n)) now bad turn n seen := by
 have hl : 3 < cs.size := by have := (Array.getElem?_eq_some_iff.1 h.deep).1; omega
 refine ⟨?_, ?_, ?_, Array.getElem?_setIfInBounds_self_of_lt hl, fun k hk => ?_⟩
 ·rw [Array.getElem?_setIfInBounds_ne (by omega)]; exact h.now
 ·rw [Array.getElem?_setIfInBounds_ne (by omega)]; exact h.bad
 ·rw [Array.getElem?_setIfInBounds_ne (by omega)]; exact h.turn
 ·rw [Array.getElem?_setIfInBounds_ne (by omega)]; exact h.seen k hk
theorem Sc.set_seen (h : Sc cs now bad turn deep seen) {q : Nat} (hq : q < 21) (n : Int) : Sc (cs.setIfInBounds (12 + 9 * q) (.int .i64 n)) now bad turn deep (fun k => if k = q then n else seen k) := by
 have hl : 12 + 9 * q < cs.size := (Array.getElem?_eq_some_iff.1 (h.seen q hq)).1
 refine ⟨?_, ?_, ?_, ?_, fun k hk => ?_⟩
 ·rw [Array.getElem?_setIfInBounds_ne (by omega)]; exact h.now
 ·rw [Array.getElem?_setIfInBounds_ne (by omega)]; exact h.bad
 ·rw [Array.getElem?_setIfInBounds_ne (by omega)]; exact h.turn
 ·rw [Array.getElem?_setIfInBounds_ne (by omega)]; exact h.deep
 ·by_cases e : k = q
  ·subst e; rw [if_pos rfl]; exact Array.getElem?_setIfInBounds_self_of_lt hl
  ·rw [if_neg e, Array.getElem?_setIfInBounds_ne (by omega)]; exact h.seen k hk
end
/-- a list that was handed out: a row of its own, or empty and without room -/
def Lst {α : Type} (d : Kd α) (te base : Nat) (v : Value) (xs : List α) (t : Nat) (L : Nat → Nat) (W : World) : Prop := Ow d te base v xs t L W ∨ (xs = [] ∧ ∃ A, v = .slice A 0 0)
/-- a copy of it that stays -/
def Cpy {α : Type} (d : Kd α) (v : Value) (xs : List α) (L : Nat → Nat) (W : World) : Prop := ∃ A c, v = .slice A xs.length c ∧ xs.length ≤ c ∧ Firm L W (fun W' => d.C W' A xs.length xs)
/-- the block in which a list has places -/
def rmb : Value → Option Nat
 | .slice (some a) _ (_ + 1) => some a.block
 | _ => none
section
variable {α : Type} {d : Kd α} {te base t u : Nat} {v : Value} {xs : List α} {L L' : Nat → Nat} {W W' : World} {X : Nat → Prop}
theorem rmb_own {b : Nat} (h : rmb v = some b) : v.ownBlock = some b := by
 unfold rmb at h
 split at h
 ·simpa [Value.ownBlock] using h
 ·cases h
theorem Lst.step (h : Lst d te base v xs t L W) (k : Only X L W L' W') (hX : ¬ X t) (h0 : ¬ X 0) : Lst d te base v xs t L' W' := h.imp (fun h => h.step k hX h0) id
theorem Cpy.step (h : Cpy d v xs L W) (k : Only X L W L' W') (h0 : ¬ X 0) : Cpy d v xs L' W' := by
 obtain ⟨A, c, e, hc, hf⟩ := h
 exact ⟨A, c, e, hc, hf.only k h0⟩
theorem Lst.lt (h : Lst d te base v xs t L W) {b : Nat} (hb : rmb v = some b) : b < W.heap.size := by
 rcases h with h | ⟨_, A, rfl⟩
 ·obtain ⟨⟨inner, ho, _⟩, _⟩ := h
  exact own_lt ho b (rmb_own hb)
 ·cases A <;> simp [rmb] at hb
end
/-- place j of a row, as the walk reads it -/
theorem own_place {w : World} {base : Nat} {e : TypeId} {V : Value} {xs : List Value} (h : w.ownsRow base e 1 V xs.length xs) {j : Nat} {v : Value} (hj : xs[j]? = some v) : ∃ b c, V = .slice (some ⟨b, 0, none⟩) xs.length c ∧ xs.length ≤ c ∧ b < w.heap.size ∧ w.cell? ⟨b, j, none⟩ = some v := by
 have hl := (List.getElem?_eq_some_iff.1 hj).1
 obtain ⟨g, c, e1, h1, h2⟩ := h.form (by omega)
 refine ⟨g, c, e1, own_le (by rw [← e1]; exact h), own_lt h g (by rw [e1]; rfl), ?_⟩
 have := h.cells (g := g) (by rw [e1]; rfl) j v hj
 rwa [add_plain] at this
/-- the lists of a kind that wait, their notes, what they hold -/
structure Wt {α : Type} (d : Kd α) (te base t : Nat) (L : Nat → Nat) (W : World) (vs ns : List Value) (xss : List (List α)) : Prop where
 lv : vs.length = xss.length
 ln : ns.length = xss.length
 ls : ∀ (j : Nat) (v : Value) (xs : List α), vs[j]? = some v → xss[j]? = some xs → Lst d te base v xs t L W
 cp : ∀ (j : Nat) (v : Value) (xs : List α), ns[j]? = some v → xss[j]? = some xs → Cpy d v xs L W
 ap : ∀ (j j' : Nat) (v v' : Value) (b : Nat), vs[j]? = some v → vs[j']? = some v' → rmb v = some b → rmb v' = some b → j = j'
/-- lists that are out, and what they were told -/
structure Ou {α : Type} (d : Kd α) (te base t : Nat) (L : Nat → Nat) (W : World) (vs ns : List Value) (xss : List (List α)) : Prop where
 lv : vs.length = xss.length
 ln : ns.length = xss.length
 rd : ∀ (j : Nat) (v : Value) (xs : List α), vs[j]? = some v → xss[j]? = some xs → ∃ A c, v = .slice A xs.length c ∧ xs.length ≤ c ∧ ∀ (L' : Nat → Nat) (W' : World), (∀ k, k < W.heap.size → (L k = 0 ∨ L k = t) → W'.heap[k]? = W.heap[k]? ∧ L' k = L k) → W.heap.size ≤ W'.heap.size → d.C W' A xs.length xs
 cp : ∀ (j : Nat) (v : Value) (xs : List α), ns[j]? = some v → xss[j]? = some xs → Cpy d v xs L W
section
variable {α : Type} {d : Kd α} {te base t : Nat} {vs ns : List Value} {xss : List (List α)} {L L' : Nat → Nat} {W W' : World} {X : Nat → Prop}
theorem Wt.nil (d : Kd α) (te base t : Nat) (L : Nat → Nat) (W : World) : Wt d te base t L W [] [] [] := ⟨rfl, rfl, fun j v xs h => by simp at h, fun j v xs h => by simp at h, fun j j' v v' b h => by simp at h⟩
theorem Wt.step (h : Wt d te base t L W vs ns xss) (k : Only X L W L' W') (hX : ¬ X t) (h0 : ¬ X 0) : Wt d te base t L' W' vs ns xss :=
 ⟨h.lv, h.ln, fun j v xs a b => (h.ls j v xs a b).step k hX h0, fun j v xs a b => (h.cp j v xs a b).step k h0, h.ap⟩
theorem Ou.nil (d : Kd α) (te base t : Nat) (L : Nat → Nat) (W : World) : Ou d te base t L W [] [] [] := ⟨rfl, rfl, fun j v xs h => by simp at h, fun j v xs h => by simp at h⟩
theorem Ou.step (h : Ou d te base t L W vs ns xss) (k : Only X L W L' W') (hX : ¬ X t) (h0 : ¬ X 0) : Ou d te base t L' W' vs ns xss :=
 ⟨h.lv, h.ln, fun j v xs a b => by
  obtain ⟨A, c, e, hc, hf⟩ := h.rd j v xs a b
  refine ⟨A, c, e, hc, fun L2 W2 hk hs => hf L2 W2 (fun q hq hz => ?_) (Nat.le_trans k.size hs)⟩
  have h1 := k.lab q hq
  have h2 := k.keep q hq (fun hx => by (rcases hz with e | e); (rw [e] at hx; exact h0 hx); (rw [e] at hx; exact hX hx))
  have h3 := hk q (Nat.lt_of_lt_of_le hq k.size) (by rw [h1]; exact hz)
  exact ⟨h3.1.trans h2, h3.2.trans h1⟩, fun j v xs a b => (h.cp j v xs a b).step k h0⟩
end

end Go.Proofs.YtndhkgfeknkfdaaGreatDoor.Rm
