/- events on blocks that are known whole. -/
import Derived.Test.YthlhlgomnjeenabRm
import Derived.Deep.MidRow
import Derived.Deep.RegionLaw
import Derived.Deep.RegionLawGrows
namespace Go.Proofs.Ythlhlgomnjeenab.Rm
open Go.RowKit Go.Proofs.YthlhlgomnjeenabW.PrintWords Go.Proofs.YthlhlgomnjeenabW.PrintLast Go.Proofs.YthlhlgomnjeenabW.PrintMore
set_option linter.unusedVariables false
set_option linter.unusedSimpArgs false
/-- block g alone is written -/
structure One (w W : World) (g : Nat) : Prop where
  os : W.os = w.os
  tape : W.tape = w.tape
  output : W.output = w.output
  size : W.heap.size = w.heap.size
  keep : ∀ k, k ≠ g → W.heap[k]? = w.heap[k]?
theorem One.only {X : Nat → Prop} {L : Nat → Nat} {w W : World} {g : Nat} (h : One w W g) (hX : X (L g)) : Only X L w L W := ⟨Nat.le_of_eq h.size.symm, fun k _ hx => h.keep k (fun e => hx (by rw [e]; exact hX)), fun _ _ => rfl⟩
theorem One.below {w0 w W : World} {base g : Nat} (h : One w W g) (hb : Below base w0 w) (hg : base ≤ g) : Below base w0 W := hb.trans ⟨h.os, h.tape, h.output, Nat.le_of_eq h.size.symm, fun k hk => h.keep k (by omega)⟩
theorem One.cell (w : World) (g j : Nat) (v : Value) : One w (w.setCell ⟨g, j, none⟩ v) g := ⟨rfl, rfl, rfl, by simp [World.setCell], fun k hk => Below.heap_setCell _ _ _ _ hk⟩
def setFrom (cs : Array Value) (j : Nat) : List Value → Array Value
  | [] => cs
  | v :: r => setFrom (cs.setIfInBounds j v) (j + 1) r
theorem setFrom_size (vs : List Value) : ∀ (cs : Array Value) (j : Nat), (setFrom cs j vs).size = cs.size := by
  induction vs with
  | nil => intro cs j; rfl
  | cons v r ih => intro cs j; rw [setFrom, ih, Array.size_setIfInBounds]
theorem setCells_one (g : Nat) (vs : List Value) : ∀ (j : Nat) (w : World) (cs : Array Value) (t : TypeId), w.heap[g]? = some (.cells cs t (0, 0)) → (w.setCells g j vs).heap[g]? = some (.cells (setFrom cs j vs) t (0, 0)) ∧ One w (w.setCells g j vs) g := by
  induction vs with
  | nil => intro j w cs t h; exact ⟨h, rfl, rfl, rfl, rfl, fun _ _ => rfl⟩
  | cons v r ih =>
    intro j w cs t h
    have h1 := ih (j + 1) (w.setCell ⟨g, j, none⟩ v) _ t (blk_set h j v)
    exact ⟨h1.1, h1.2.os, h1.2.tape, h1.2.output, h1.2.size.trans (by simp [World.setCell]), fun k hk => (h1.2.keep k hk).trans (Below.heap_setCell _ _ _ _ hk)⟩
section
variable {P : Program} {ops : Array Oper} {rest : List Oper} {o : Oper} {a : Act} {Q : Exit → Act → World → Prop} {w : World}
theorem gate_st {ty : TypeId} {x y : Operand} (_ho : o.op = .store ty x y) (h : wpList P ops Q (o :: rest) a w) : wpList P ops Q (o :: rest) a w := h
/-- a struct stored into a part of a block -/
theorem ev_store (hgd : o.guard = none) (hN : o.dst = none) (ty : TypeId) (x y : Operand) (ho : o.op = .store ty x y) (g j : Nat) (hx : a.eval x = .pointer (some ⟨g, j, none⟩)) (t : TypeId) (cs cells : Array Value) (hg : w.heap[g]? = some (.cells cs t (0, 0))) (hy : a.eval y = .agg cells) (hi : (P.info? ty).map (·.size) = some cells.size) (hj : j + cells.size ≤ cs.size) (h1 : cells.toList.all (·.oneCell') = true)
    (h : ∀ w1, w1.heap[g]? = some (.cells (setFrom cs j cells.toList) t (0, 0)) → One w w1 g → wpList P ops Q rest a w1) : wpList P ops Q (o :: rest) a w := by
  refine wpList_store_mid hgd ty x y ho g j cells hx hy (fun i hi' => ?_) hi (by rw [← Array.all_toList]; exact h1) ?_
  · refine ⟨?_, blk_frozen hg _⟩
    rw [blk_cell hg, Array.getElem?_eq_getElem (by omega)]
    rfl
  · rw [hN]
    have h2 := setCells_one g cells.toList j w cs t hg
    exact h _ h2.1 h2.2
/-- a struct read out of a part of a block -/
theorem ev_load (hgd : o.guard = none) (ty : TypeId) (x : Operand) (ho : o.op = .load ty x) (g j n : Nat) (hx : a.eval x = .pointer (some ⟨g, j, none⟩)) (t : TypeId) (fr : Nat × Nat) (cs : Array Value) (hg : w.heap[g]? = some (.cells cs t fr)) (d : TypeDesc) (hu : P.underlying ty = some d) (hd : d.isRow = true) (cells : List Value) (hcs : (cs.extract j (j + n)).toList = cells) (hi : (P.info? ty).map (·.size) = some cells.length)
    (h : wpList P ops Q rest (a.put o.dst (.agg cells.toArray)) w) : wpList P ops Q (o :: rest) a w :=
  wpList_load_mid hgd ty x ho g j hx cells d (by rw [← hcs]; exact World.rangeAt_of_block hg j n) hu hd hi h
end
end Go.Proofs.Ythlhlgomnjeenab.Rm
