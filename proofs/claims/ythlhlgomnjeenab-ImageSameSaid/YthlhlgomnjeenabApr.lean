/- append of a list onto a freshly built, empty slice: an own row that reads as the list. -/
import Derived.Test.YthlhlgomnjeenabRm
import Derived.ArgAppend
import Derived.Deep.RegionLaw
import Derived.Deep.RegionLawGrows
namespace Go.Proofs.Ythlhlgomnjeenab.Rm
open Go.RowKit Go.Proofs.YthlhlgomnjeenabW.PrintWords Go.Proofs.YthlhlgomnjeenabW.PrintLast Go.Proofs.YthlhlgomnjeenabW.PrintMore
set_option linter.unusedVariables false
set_option linter.unusedSimpArgs false
theorem run_append_new {P : Program} {α : Type} (d : Kd α) {W : World} (base : Nat) (t ty e : TypeId) (z : Value) (bytes : Nat) (ht : P.underlying t = some (.slice e)) (hinfo : (P.info? e).map (fun i => (i.zero, i.size, i.bytes)) = some (some z, d.sz, bytes))
    (hz : z.cells.size = d.sz) (hs0 : 0 < d.sz) (hb0 : 0 < bytes) (b : Nat) (hb : W.heap[b]? = some (.cells #[] e (0, 0))) (hbase : base ≤ b) (hKW : ∀ (W1 W2 : World) x cs, d.K W1 x cs → d.K W2 x cs) (A : Option Addr) (m c : Nat) (ys : List α) (HY : d.C W A m ys) (hl : m * bytes ≤ 140737488355328) :
    ∃ v1 w1, (Builtin.append_ #[t, t] ty #[.slice (some ⟨b, 0, none⟩) 0 0, .slice A m c]).run P W = .ok v1 w1 ∧ Below W.heap.size W w1 ∧ OwnRow (d.K w1) e d.sz w1 base v1 ys ∧ ∃ b', v1.ownBlock = some b' ∧ b ≤ b' := by
  obtain ⟨i0, hi, hzz⟩ := Option.map_eq_some_iff.1 hinfo
  simp only [Prod.mk.injEq] at hzz
  obtain ⟨hz0, hz1, hz2⟩ := hzz
  have hm : ys.length = m := HY.1
  have hbl : b < W.heap.size := (Array.getElem?_eq_some_iff.1 hb).1
  have hlen : m ≤ 140737488355328 := Nat.le_trans (Nat.le_mul_of_pos_right _ hb0) hl
  rcases Nat.eq_zero_or_pos m with h0 | h0
  · subst h0
    obtain rfl : ys = [] := List.eq_nil_of_length_eq_zero hm
    refine ⟨.slice (some ⟨b, 0, none⟩) 0 0, W, ?_, Below.refl _ _, ?_, b, rfl, Nat.le_refl _⟩
    · rcases A with _ | a2
      · simp [Builtin.append_, run_underlying ht, sizeOf, typeInfo, hi, Builtin.lenOf, Builtin.firstCells, storeCells]
      · simp [Builtin.append_, run_underlying ht, sizeOf, typeInfo, hi, Builtin.lenOf, Builtin.firstCells, storeCells, loadCells, loadCellsFrom]
    · refine ⟨[], ⟨by simp, .inr ⟨b, 0, #[], rfl, hbase, hb, Nat.le_refl _, Nat.zero_le _, by simp, by simp⟩⟩, Reps.none _ _⟩
  · obtain ⟨a2, rfl, _⟩ := HY.2.2 h0
    obtain ⟨news, hnr, hnc⟩ := ReadsRow.inner_ HY
    obtain ⟨v', w', hrun, r1, r2⟩ := run_append_arg_grows (P := P) W t ty e i0 z d.sz bytes ht hi hz0 hz1 hz2 hz hs0 ⟨b, 0, none⟩ 0 0 [] (by simp) (by intro j u hu; simp at hu) a2 m c news (by rw [hnr.1, hm]) hnc (by omega) (by unfold maxLen; omega) (by rw [Nat.zero_add]; exact hl)
    have hbb : Below W.heap.size W w' := pw_below_grown (Below.refl _ _) none (Nat.le_refl _) r2 (fun k hk => by cases hk)
    have ho : OwnRow (d.K w') e d.sz w' W.heap.size v' ys := ⟨news, by rw [hm]; simpa using r1, hnr.imp_ (fun _ _ hp => hKW _ _ _ _ hp)⟩
    refine ⟨v', w', hrun, hbb, ho.lower (by omega), ?_⟩
    obtain ⟨inner, hin, _⟩ := ho
    rcases hin.2 with ⟨hv, hv0⟩ | ⟨g, cap, cur, rfl, hg, _⟩
    · omega
    · exact ⟨g, rfl, by omega⟩
theorem wpList_append_new {P : Program} {ops : Array Oper} {rest : List Oper} {o : Oper} {a : Act} {W : World} {Q : Exit → Act → World → Prop} {α : Type} (d : Kd α) (hgd : o.guard = none) (base : Nat) (s x : Operand) (t : TypeId) (hop : o.op = Op.call { callee := Callee.builtin Builtin.append, args := #[s, x], argTypes := #[t, t] }) (e : TypeId) (z : Value) (bytes : Nat) (ht : P.underlying t = some (.slice e)) (hinfo : (P.info? e).map (fun i => (i.zero, i.size, i.bytes)) = some (some z, d.sz, bytes))
    (hz : z.cells.size = d.sz) (hs0 : 0 < d.sz) (hb0 : 0 < bytes) (b : Nat) (hs : a.eval s = .slice (some ⟨b, 0, none⟩) 0 0) (hb : W.heap[b]? = some (.cells #[] e (0, 0))) (hbase : base ≤ b) (hKW : ∀ (W1 W2 : World) x cs, d.K W1 x cs → d.K W2 x cs) (A : Option Addr) (m c : Nat) (hx : a.eval x = .slice A m c) (ys : List α) (HY : d.C W A m ys) (hl : m * bytes ≤ 140737488355328)
    (h : ∀ v1 w1, OwnRow (d.K w1) e d.sz w1 base v1 ys → (∃ b', v1.ownBlock = some b' ∧ b ≤ b') → Below W.heap.size W w1 → wpList P ops Q rest (a.put o.dst v1) w1) : wpList P ops Q (o :: rest) a W :=
  wpList_plain hgd fun K hK => by
    obtain ⟨v1, w1, hrun, hb1, ho, hat⟩ := run_append_new (P := P) d base t o.type e z bytes ht hinfo hz hs0 hb0 b hb hbase hKW A m c ys HY hl
    unfold Oper.wp
    simp [execOp, hop, resolve, invoke, builtin, hs, hx, hrun, Result.andThen]
    exact hK _ _ (h v1 w1 ho hat hb1)
end Go.Proofs.Ythlhlgomnjeenab.Rm
