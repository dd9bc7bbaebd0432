/- append onto a slice without room: new memory that reads as both. -/
import Derived.Test.YtipliohgnaoblaaDoorFew
import Derived.ArgAppend
import Derived.Deep.RegionLaw
import Derived.Deep.RegionLawGrows
namespace Go.Proofs.YtipliohgnaoblaaDoor.Pk
open Go.RowKit Go.Proofs.YtipliohgnaoblaaDoorW.PrintWords Go.Proofs.YtipliohgnaoblaaDoorW.PrintLast Go.Proofs.YtipliohgnaoblaaDoorW.PrintMore
set_option linter.unusedVariables false
set_option linter.unusedSimpArgs false
theorem reps_one_cell {α : Type} (d : Kd α) {W : World} {ys : List α} {news : List Value} (hs0 : 0 < d.sz) (h : Reps (d.K W) d.sz ys news) : ∀ u ∈ news, u.oneCell' = true := by
  intro u hu
  obtain ⟨q, hq, rfl⟩ := List.mem_iff_getElem.1 hu
  have hql : q / d.sz < ys.length := by
    rw [Nat.div_lt_iff_lt_mul hs0, ← h.1]
    exact hq
  have hc := h.2 (q / d.sz) _ (List.getElem?_eq_getElem hql)
  refine d.K_one hc _ ?_
  rw [List.mem_iff_getElem?]
  refine ⟨q % d.sz, ?_⟩
  rw [List.getElem?_take, if_pos (Nat.mod_lt _ hs0), List.getElem?_drop, Nat.mul_comm, Nat.div_add_mod, List.getElem?_eq_getElem hq]
theorem run_append_C {P : Program} {α : Type} (d : Kd α) {W : World} (t ty e : TypeId) (z : Value) (bytes : Nat) (ht : P.underlying t = some (.slice e)) (hinfo : (P.info? e).map (fun i => (i.zero, i.size, i.bytes)) = some (some z, d.sz, bytes))
    (hz : z.cells.size = d.sz) (hs0 : 0 < d.sz) (hb0 : 0 < bytes) (ad : Addr) (n : Nat) (xs : List α) (g : Nat) (hgW : g < W.heap.size) (hKW : ∀ (W1 W2 : World) x cs, d.K W1 x cs → d.K W2 x cs) (HX : ∀ W', KeepBut W W' g none → d.C W' (some ad) n xs) (A : Option Addr) (m c : Nat) (ys : List α) (HY : d.C W A m ys) (hl : (n + m) * bytes ≤ 140737488355328) :
    ∃ v1 w1, (Builtin.append_ #[t, t] ty #[.slice (some ad) n n, .slice A m c]).run P W = .ok v1 w1 ∧ Below W.heap.size W w1 ∧ ∃ A1 c1, v1 = .slice A1 (xs ++ ys).length c1 ∧ (xs ++ ys).length ≤ c1 ∧ ∀ W', KeepBut w1 W' g none → d.C W' A1 (xs ++ ys).length (xs ++ ys) := by
  have HX0 := HX W (KeepBut.refl _ _ _)
  obtain ⟨i0, hi, hzz⟩ := Option.map_eq_some_iff.1 hinfo
  simp only [Prod.mk.injEq] at hzz
  obtain ⟨hz0, hz1, hz2⟩ := hzz
  have hm : ys.length = m := HY.1
  have hn : xs.length = n := HX0.1
  have hlen : n + m ≤ 140737488355328 := Nat.le_trans (Nat.le_mul_of_pos_right _ hb0) hl
  rcases Nat.eq_zero_or_pos m with h0 | h0
  · subst h0
    obtain rfl : ys = [] := List.eq_nil_of_length_eq_zero hm
    refine ⟨.slice (some ad) n n, W, ?_, Below.refl _ _, some ad, n, by rw [List.append_nil, hn], by rw [List.append_nil, hn]; exact Nat.le_refl _, by rw [List.append_nil, hn]; exact HX⟩
    rcases A with _ | a2
    · simp [Builtin.append_, run_underlying ht, sizeOf, typeInfo, hi, Builtin.lenOf, Builtin.firstCells, storeCells]
    · simp [Builtin.append_, run_underlying ht, sizeOf, typeInfo, hi, Builtin.lenOf, Builtin.firstCells, storeCells, loadCells, loadCellsFrom]
  · obtain ⟨a2, rfl, _⟩ := HY.2.2 h0
    obtain ⟨olds, hor, hoc⟩ := ReadsRow.inner_ HX0
    obtain ⟨news, hnr, hnc⟩ := ReadsRow.inner_ HY
    obtain ⟨v', w', hrun, r1, r2⟩ := run_append_arg_grows (P := P) W t ty e i0 z d.sz bytes ht hi hz0 hz1 hz2 hz hs0 ad n n olds (by rw [hor.1, hn]) hoc a2 m c news (by rw [hnr.1, hm]) hnc (by omega) (by unfold maxLen; omega) hl
    have hb : Below W.heap.size W w' := pw_below_grown (Below.refl _ _) none (Nat.le_refl _) r2 (fun k hk => by cases hk)
    have hrep : Reps (d.K w') d.sz (xs ++ ys) (olds ++ news) := (Kd.reps_append hor hnr).imp_ (fun _ _ hp => hKW _ _ _ _ hp)
    have ho : OwnRow (d.K w') e d.sz w' W.heap.size v' (xs ++ ys) := ⟨olds ++ news, by rw [List.length_append, hn, hm]; exact r1, hrep⟩
    obtain ⟨A1, c1, e1, e2, e3⟩ := OwnRow.reads ho
    refine ⟨v', w', hrun, hb, A1, c1, e1, e2, fun W' hW => ?_⟩
    have ho2 : OwnRow (d.K W') e d.sz W' W.heap.size v' (xs ++ ys) := by
      obtain ⟨inner, h1, h2⟩ := ho
      refine ⟨inner, own_move h1 (fun k hk => ?_), h2.imp_ (fun _ _ hp => hKW _ _ _ _ hp)⟩
      have hk2 := h1.lt k hk
      exact hW.2 k hk2.2 (by have := hk2.1; omega) (by simp)
    obtain ⟨A2, c2, f1, f2, f3⟩ := OwnRow.reads ho2
    rw [e1] at f1
    injection f1 with g1 g2 g3
    subst g1
    exact f3
theorem step_append_C {P : Program} {ops : Array Oper} {o : Oper} {a : Act} {W : World} {K : Act → World → Prop} {Q : Exit → Act → World → Prop} {E : Prop} {α : Type} (d : Kd α)
    (hg : o.guard = none) (s x : Operand) (t : TypeId) (hop : o.op = Op.call { callee := Callee.builtin Builtin.append, args := #[s, x], argTypes := #[t, t] }) (e : TypeId) (z : Value) (bytes : Nat) (ht : P.underlying t = some (.slice e)) (hinfo : (P.info? e).map (fun i => (i.zero, i.size, i.bytes)) = some (some z, d.sz, bytes))
    (hz : z.cells.size = d.sz) (hs0 : 0 < d.sz) (hb0 : 0 < bytes) (ad : Addr) (n : Nat) (hs : a.eval s = .slice (some ad) n n) (xs : List α) (g : Nat) (hgW : g < W.heap.size) (hKW : ∀ (W1 W2 : World) x cs, d.K W1 x cs → d.K W2 x cs) (HX : ∀ W', KeepBut W W' g none → d.C W' (some ad) n xs) (A : Option Addr) (m c : Nat) (hx : a.eval x = .slice A m c) (ys : List α) (HY : d.C W A m ys) (hl : (n + m) * bytes ≤ 140737488355328)
    (hK : ∀ A1 c1 w1, (xs ++ ys).length ≤ c1 → (∀ W', KeepBut w1 W' g none → d.C W' A1 (xs ++ ys).length (xs ++ ys)) → Below W.heap.size W w1 → K (a.put o.dst (.slice A1 (xs ++ ys).length c1)) w1) :
    if Region.wanted o (yielded ops a.tmps) = true then Oper.wp P o a W K Q else E := by
  have hw : Region.wanted o (yielded ops a.tmps) = true := by simp [Region.wanted, hg]
  rw [if_pos hw]
  obtain ⟨v1, w1, hrun, hb, A1, c1, rfl, h1, h2⟩ := run_append_C (P := P) d t o.type e z bytes ht hinfo hz hs0 hb0 ad n xs g hgW hKW HX A m c ys HY hl
  unfold Oper.wp
  simp [execOp, hop, resolve, invoke, builtin, hs, hx, hrun, Result.andThen]
  have := hK A1 c1 w1 h1 h2 hb
  show K (a.put o.dst (Value.slice A1 (xs.length + ys.length) c1)) w1
  simpa using this
end Go.Proofs.YtipliohgnaoblaaDoor.Pk
