/- crierref15.Copy: new memory that reads as it did. -/
import Derived.Test.YthlhlgomnjeenabEr
import Derived.Test.YthlhlgomnjeenabLn
namespace Go.Proofs.Ythlhlgomnjeenab.Rm
open Go.RowKit Go.Proofs.YthlhlgomnjeenabW.PrintWords Go.Proofs.YthlhlgomnjeenabW.PrintLast Go.Proofs.YthlhlgomnjeenabW.PrintMore Go.Proofs.Ythlhlgomnjeenab.PImageSame
set_option linter.unusedVariables false
set_option linter.unusedSimpArgs false
set_option maxHeartbeats 4000000
set_option maxRecDepth 100000
structure Same3 (w W : World) : Prop where
  os : W.os = w.os
  tape : W.tape = w.tape
  output : W.output = w.output
/-- below w nothing has turned; it has label 0 -/
structure Bs (w : World) (L : Nat → Nat) (W : World) : Prop where
  low : ∀ k, k < w.heap.size → L k = 0
  below : Below w.heap.size w W
/-- a block that is known whole, with label t -/
structure Bk (g : Nat) (cs : Array Value) (T : TypeId) (t : Nat) (L : Nat → Nat) (W : World) : Prop where
  blk : W.heap[g]? = some (.cells cs T (0, 0))
  lab : L g = t
/-- a row of the call's own with label t, whose elements read firmly -/
structure Ow {α : Type} (d : Kd α) (te : TypeId) (base : Nat) (v : Value) (ps : List α) (t : Nat) (L : Nat → Nat) (W : World) : Prop where
  own : OwnRow (fun p c => Firm L W (fun W' => d.K W' p c)) te d.sz W base v ps
  lab : ∀ b, v.ownBlock = some b → L b = t
section
variable {α : Type} {d : Kd α} {te base g T t u : Nat} {L L' : Nat → Nat} {w W W' : World} {v v' : Value} {ps : List α} {cs cs' : Array Value} {X : Nat → Prop} {F : World → Prop}
theorem Bs.step (h : Bs w L W) (k : Only X L W L' W') (hX : ¬ X 0) (e : Same3 W W') : Bs w L' W' where
  low := fun i hi => (k.lab i (Nat.lt_of_lt_of_le hi h.below.size)).trans (h.low i hi)
  below := h.below.trans ⟨e.os, e.tape, e.output, k.size, fun i hi => k.keep i (Nat.lt_of_lt_of_le hi h.below.size) (by rw [h.low i hi]; exact hX)⟩
theorem Bk.step (h : Bk g cs T t L W) (k : Only X L W L' W') (hX : ¬ X t) : Bk g cs T t L' W' := ⟨(k.keep g (blk_lt h.blk) (by rw [h.lab]; exact hX)).trans h.blk, (k.lab g (blk_lt h.blk)).trans h.lab⟩
theorem Ow.step (h : Ow d te base v ps t L W) (k : Only X L W L' W') (hX : ¬ X t) (h0 : ¬ X 0) : Ow d te base v ps t L' W' := by
  obtain ⟨⟨inner, ho, hr⟩, hl⟩ := h
  exact ⟨⟨inner, own_move ho (fun b hb => k.keep b (own_lt ho b hb) (by rw [hl b hb]; exact hX)), hr.imp_ (fun _ _ hp => hp.only k h0)⟩, fun b hb => (k.lab b (own_lt ho b hb)).trans (hl b hb)⟩
theorem Ow.nil (d : Kd α) (te base t : Nat) (L : Nat → Nat) (W : World) : Ow d te base (.slice none 0 0) [] t L W := ⟨OwnRow.none_ _ _ _ _ _, fun b hb => by simp [Value.ownBlock] at hb⟩
theorem Ow.slice_ (h : Ow d te base v ps t L W) : ∃ A c, v = .slice A ps.length c ∧ ps.length ≤ c := h.own.slice_
/-- events -/
theorem on_new (t : Nat) (hb : Below W.heap.size W W') : Only No L W (lab1 L W.heap.size t) W' := only1 hb
theorem on_one (h : One W W' g) (hl : L g = t) : Only (Is t) L W L W' := h.only hl
theorem s3_below {B : Nat} (h : Below B W W') : Same3 W W' := ⟨h.os, h.tape, h.output⟩
theorem s3_one (h : One W W' g) : Same3 W W' := ⟨h.os, h.tape, h.output⟩
theorem s3_grown {row : Option Nat} (h : W.grownBy W' row) : Same3 W W' := ⟨h.os, h.tape, h.output⟩
theorem Bk.new (t : Nat) (hg : g = W.heap.size) (h : W'.heap[g]? = some (.cells cs T (0, 0))) : Bk g cs T t (lab1 L W.heap.size t) W' := ⟨h, lab1_new (by omega)⟩
theorem Bk.set (h : Bk g cs T t L W) (hb : W'.heap[g]? = some (.cells cs' T (0, 0))) : Bk g cs' T t L W' := ⟨hb, h.lab⟩
theorem on_grown (h : Ow d te base v ps t L W) (hg : W.grownBy W' v.ownBlock) : Only (Is t) L W (lab1 L W.heap.size t) W' := ⟨hg.size, fun k hk hx => hg.block k hk (fun e => hx (h.lab k e.symm)), fun k hk => lab1_old hk⟩
theorem Ow.app (h : Ow d te base v ps t L W) {p : α} (ht : t ≠ 0) (ho : OwnRow (fun p c => Firm L W (fun W' => d.K W' p c)) te d.sz W' base v' (ps ++ [p])) (hg : W.grownBy W' v.ownBlock) (hat : v'.ownBlock = v.ownBlock ∨ ∃ b, v'.ownBlock = some b ∧ W.heap.size ≤ b) : Ow d te base v' (ps ++ [p]) t (lab1 L W.heap.size t) W' := by
  have hO := on_grown h hg
  refine ⟨?_, fun b hb => ?_⟩
  · obtain ⟨inner, ho, hr⟩ := ho
    exact ⟨inner, ho, hr.imp_ (fun _ _ hp => hp.only hO (fun h0 => ht h0.symm))⟩
  · obtain ⟨⟨inner, ho2, _⟩, hl⟩ := h
    rcases hat with e | ⟨b', e, hb'⟩
    · rw [e] at hb
      rw [lab1_old (own_lt ho2 b hb)]
      exact hl b hb
    · rw [e] at hb
      obtain rfl := Option.some.inj hb
      exact lab1_new hb'
/-- a row that is finished gets label 0 -/
def frz (L : Nat → Nat) (v : Value) : Nat → Nat := fun k => if v.ownBlock = some k then 0 else L k
theorem frz_soft : Soft L W (frz L v) W := ⟨Nat.le_refl _, fun k _ h0 => ⟨rfl, by unfold frz; split <;> first | rfl | exact h0⟩⟩
theorem Bs.frz (h : Bs w L W) : Bs w (frz L v) W := ⟨fun k hk => by unfold Rm.frz; split <;> first | rfl | exact h.low k hk, h.below⟩
theorem Bk.frz (h : Bk g cs T t L W) {e : TypeId} (ho : Ow d e base v ps u L W) (hne : u ≠ t) : Bk g cs T t (frz L v) W := ⟨h.blk, by
  unfold Rm.frz
  rw [if_neg (fun hv => hne (by rw [← ho.lab g hv, h.lab]))]
  exact h.lab⟩
theorem Ow.frz {β : Type} {d' : Kd β} {e' : TypeId} {b' : Nat} {qs : List β} {v' : Value} (h : Ow d te base v ps t L W) (ho : Ow d' e' b' v' qs u L W) (hne : u ≠ t) : Ow d te base v ps t (frz L v') W := by
  obtain ⟨⟨inner, h1, hr⟩, hl⟩ := h
  exact ⟨⟨inner, h1, hr.imp_ (fun _ _ hp => hp.step frz_soft)⟩, fun b hb => by
    unfold Rm.frz
    rw [if_neg (fun hv => hne (by rw [← ho.lab b hv, hl b hb]))]
    exact hl b hb⟩
theorem Firm.frz (h : Firm L W F) : Firm (frz L v) W F := h.step frz_soft
/-- what it reads as, firmly -/
theorem Ow.firm (h : Ow d te base v ps t L W) : ∃ A c, v = .slice A ps.length c ∧ ps.length ≤ c ∧ Firm (Rm.frz L v) W (fun W' => d.C W' A ps.length ps) := by
  obtain ⟨A, c, e, hc⟩ := h.slice_
  refine ⟨A, c, e, hc, fun L' W' hW => ?_⟩
  obtain ⟨⟨inner, ho, hr⟩, hl⟩ := h
  have h2 : OwnRow (d.K W') te d.sz W' base v ps := ⟨inner, own_move ho (fun b hb => (hW.2 b (own_lt ho b hb) (if_pos hb)).1), hr.imp_ (fun _ _ hp => hp L' W' (frz_soft.trans hW))⟩
  obtain ⟨A', c', e', _, hr2⟩ := OwnRow.reads h2
  rw [e] at e'
  injection e' with e1 e2 e3
  subst e1
  exact hr2
/-- a row made by a call, with label 0 -/
theorem firm_R {e : TypeId} {ok : Nat → Prop} {xs : List α} (h : d.R e W' W.heap.size ok v xs) (hK : ∀ (W1 W2 : World) x cs, d.K W1 x cs → d.K W2 x cs) : ∃ A c, v = .slice A xs.length c ∧ xs.length ≤ c ∧ Firm (lab1 L W.heap.size 0) W' (fun W2 => d.C W2 A xs.length xs) := by
  obtain ⟨_, inner, ho, hr⟩ := h
  obtain ⟨A, c, e1, hc⟩ := OwnRow.slice_ (R := d.M W' W.heap.size (fun k => ok k ∧ some k ≠ v.ownBlock)) ⟨inner, ho, hr⟩
  refine ⟨A, c, e1, hc, fun L' W2 hW => ?_⟩
  have h2 : OwnRow (d.K W2) e d.sz W2 W.heap.size v xs := ⟨inner, own_move ho (fun b hb => (hW.2 b (own_lt ho b hb) (lab1_new (own_base ho b hb))).1), hr.imp_ (fun _ _ hp => hK _ _ _ _ (d.K_of_M hp))⟩
  obtain ⟨A', c', e', _, hr2⟩ := OwnRow.reads h2
  rw [e1] at e'
  injection e' with e3 e4 e5
  subst e3
  exact hr2
theorem firm_own {e : TypeId} {xs : List α} (h : OwnRow (d.K W') e d.sz W' W.heap.size v xs) (hK : ∀ (W1 W2 : World) x cs, d.K W1 x cs → d.K W2 x cs) : ∃ A c, v = .slice A xs.length c ∧ xs.length ≤ c ∧ Firm (lab1 L W.heap.size 0) W' (fun W2 => d.C W2 A xs.length xs) := by
  obtain ⟨A, c, e1, hc⟩ := h.slice_
  refine ⟨A, c, e1, hc, fun L' W2 hW => ?_⟩
  obtain ⟨inner, ho, hr⟩ := h
  have h2 : OwnRow (d.K W2) e d.sz W2 W.heap.size v xs := ⟨inner, own_move ho (fun b hb => (hW.2 b (own_lt ho b hb) (lab1_new (own_base ho b hb))).1), hr.imp_ (fun _ _ hp => hK _ _ _ _ hp)⟩
  obtain ⟨A', c', e', _, hr2⟩ := OwnRow.reads h2
  rw [e1] at e'
  injection e' with e3 e4 e5
  subst e3
  exact hr2
end
theorem reps_one2 {α : Type} (d : Kd α) {W : World} {ys : List α} {news : List Value} (hs0 : 0 < d.sz) (h : Reps (d.K W) d.sz ys news) : ∀ u ∈ news, u.oneCell' = true := by
  intro u hu
  obtain ⟨q, hq, rfl⟩ := List.mem_iff_getElem.1 hu
  have hql : q / d.sz < ys.length := by
    rw [Nat.div_lt_iff_lt_mul hs0, ← h.1]
    exact hq
  have hc := h.2 (q / d.sz) _ (List.getElem?_eq_getElem hql)
  refine d.K_one hc _ ?_
  rw [List.mem_iff_getElem?]
  refine ⟨q % d.sz, ?_⟩
  rw [List.getElem?_take, if_pos (Nat.mod_lt _ hs0), List.getElem?_drop, Nat.mul_comm, Nat.div_add_mod, List.getElem?_eq_getElem hq]
/-- append(nil, xs...) -/
theorem run_append_nil {P : Program} {α : Type} (d : Kd α) {W : World} (t ty e : TypeId) (z : Value) (bytes : Nat) (ht : P.underlying t = some (.slice e)) (hinfo : (P.info? e).map (fun i => (i.zero, i.size, i.bytes)) = some (some z, d.sz, bytes))
    (hz : z.cells.size = d.sz) (hs0 : 0 < d.sz) (hb0 : 0 < bytes) (hKW : ∀ (W1 W2 : World) x cs, d.K W1 x cs → d.K W2 x cs) (A : Option Addr) (m c : Nat) (ys : List α) (HY : d.C W A m ys) (hl : m * bytes ≤ 140737488355328) :
    ∃ v1 w1, (Builtin.append_ #[t, t] ty #[.slice none 0 0, .slice A m c]).run P W = .ok v1 w1 ∧ Below W.heap.size W w1 ∧ OwnRow (d.K w1) e d.sz w1 W.heap.size v1 ys := by
  obtain ⟨i0, hi, hzz⟩ := Option.map_eq_some_iff.1 hinfo
  simp only [Prod.mk.injEq] at hzz
  obtain ⟨hz0, hz1, hz2⟩ := hzz
  have hm : ys.length = m := HY.1
  have hlen : m ≤ 140737488355328 := Nat.le_trans (Nat.le_mul_of_pos_right _ hb0) hl
  rcases Nat.eq_zero_or_pos m with h0 | h0
  · subst h0
    obtain rfl : ys = [] := List.eq_nil_of_length_eq_zero hm
    refine ⟨.slice none 0 0, W, ?_, Below.refl _ _, OwnRow.none_ _ _ _ _ _⟩
    rcases A with _ | a2
    · simp [Builtin.append_, run_underlying ht, sizeOf, typeInfo, hi, Builtin.lenOf, Builtin.firstCells, storeCells]
    · simp [Builtin.append_, run_underlying ht, sizeOf, typeInfo, hi, Builtin.lenOf, Builtin.firstCells, storeCells, loadCells, loadCellsFrom]
  · obtain ⟨a2, rfl, _⟩ := HY.2.2 h0
    obtain ⟨news, hnr, hnc⟩ := ReadsRow.inner_ HY
    obtain ⟨v', w', hrun, r1, r2, r3, r4⟩ := run_append_own_at (P := P) W W.heap.size t ty e i0 z d.sz bytes ht hi hz0 hz1 hz2 hz hs0 (.slice none 0 0) 0 [] (own_nil _ _ _ _) a2 m c news (by rw [hnr.1, hm]) hnc (reps_one2 d hs0 hnr) (by simp only [maxLen]; omega) (by rw [Nat.zero_add]; exact hl) (Nat.le_refl _)
    exact ⟨v', w', hrun, pw_below_grown (Below.refl _ _) none (Nat.le_refl _) (by simpa [Value.ownBlock] using r2) (fun k hk => by cases hk) |>.mono (Nat.le_refl _), ⟨news, by rw [hm]; simpa using r1, hnr.imp_ (fun _ _ hp => hKW _ _ _ _ hp)⟩⟩
section
variable {P : Program} {ops : Array Oper} {rest : List Oper} {o : Oper} {a : Act} {w : World} {K : Act → World → Prop} {Q : Exit → Act → World → Prop} {E : Prop}
theorem quiet_event {v : Value} (hw : Region.wanted o (yielded ops a.tmps) = true) (hrun : (execOp a.eval o).run P w = .ok (.value v) w) (h : K (a.put o.dst v) w) : if Region.wanted o (yielded ops a.tmps) = true then Oper.wp P o a w K Q else E := by
  rw [if_pos hw]
  unfold Oper.wp
  rw [hrun]
  exact h
theorem val_event {v : Value} {w1 : World} (hw : Region.wanted o (yielded ops a.tmps) = true) (hrun : (execOp a.eval o).run P w = .ok (.value v) w1) (h : K (a.put o.dst v) w1) : if Region.wanted o (yielded ops a.tmps) = true then Oper.wp P o a w K Q else E := by
  rw [if_pos hw]
  unfold Oper.wp
  rw [hrun]
  exact h
theorem val_list {v : Value} (hgd : o.guard = none) (hrun : (execOp a.eval o).run P w = .ok (.value v) w) (h : wpList P ops Q rest (a.put o.dst v) w) : wpList P ops Q (o :: rest) a w :=
  wpList_plain hgd fun K hK => by
    unfold Oper.wp
    rw [hrun]
    exact hK _ _ h
theorem app_nil_list {α : Type} (d : Kd α) (hgd : o.guard = none) (s x : Operand) (t : TypeId) (hop : o.op = Op.call { callee := Callee.builtin Builtin.append, args := #[s, x], argTypes := #[t, t] }) (e : TypeId) (z : Value) (bytes : Nat) (ht : P.underlying t = some (.slice e)) (hinfo : (P.info? e).map (fun i => (i.zero, i.size, i.bytes)) = some (some z, d.sz, bytes))
    (hz : z.cells.size = d.sz) (hs0 : 0 < d.sz) (hb0 : 0 < bytes) (hs : a.eval s = .slice none 0 0) (hKW : ∀ (W1 W2 : World) x cs, d.K W1 x cs → d.K W2 x cs) (A : Option Addr) (m c : Nat) (hx : a.eval x = .slice A m c) (ys : List α) (HY : d.C w A m ys) (hl : m * bytes ≤ 140737488355328)
    (h : ∀ v1 w1, OwnRow (d.K w1) e d.sz w1 w.heap.size v1 ys → Below w.heap.size w w1 → wpList P ops Q rest (a.put o.dst v1) w1) : wpList P ops Q (o :: rest) a w :=
  wpList_plain hgd fun K hK => by
    obtain ⟨v1, w1, hrun, hb, ho⟩ := run_append_nil (P := P) d t o.type e z bytes ht hinfo hz hs0 hb0 hKW A m c ys HY hl
    unfold Oper.wp
    simp [execOp, hop, resolve, invoke, builtin, hs, hx, hrun, Result.andThen]
    exact hK _ _ (h v1 w1 ho hb)
theorem app_nil_event {α : Type} (d : Kd α) (hw : Region.wanted o (yielded ops a.tmps) = true) (s x : Operand) (t : TypeId) (hop : o.op = Op.call { callee := Callee.builtin Builtin.append, args := #[s, x], argTypes := #[t, t] }) (e : TypeId) (z : Value) (bytes : Nat) (ht : P.underlying t = some (.slice e)) (hinfo : (P.info? e).map (fun i => (i.zero, i.size, i.bytes)) = some (some z, d.sz, bytes))
    (hz : z.cells.size = d.sz) (hs0 : 0 < d.sz) (hb0 : 0 < bytes) (hs : a.eval s = .slice none 0 0) (hKW : ∀ (W1 W2 : World) x cs, d.K W1 x cs → d.K W2 x cs) (A : Option Addr) (m c : Nat) (hx : a.eval x = .slice A m c) (ys : List α) (HY : d.C w A m ys) (hl : m * bytes ≤ 140737488355328)
    (h : ∀ v1 w1, OwnRow (d.K w1) e d.sz w1 w.heap.size v1 ys → Below w.heap.size w w1 → K (a.put o.dst v1) w1) : if Region.wanted o (yielded ops a.tmps) = true then Oper.wp P o a w K Q else E := by
  rw [if_pos hw]
  obtain ⟨v1, w1, hrun, hb, ho⟩ := run_append_nil (P := P) d t o.type e z bytes ht hinfo hz hs0 hb0 hKW A m c ys HY hl
  unfold Oper.wp
  simp [execOp, hop, resolve, invoke, builtin, hs, hx, hrun, Result.andThen]
  exact h v1 w1 ho hb
end
section
variable {P : Program} {ops : Array Oper} {rest : List Oper} {o : Oper} {a : Act} {w : World} {K : Act → World → Prop} {Q : Exit → Act → World → Prop} {E : Prop}
theorem st1_list (hgd : o.guard = none) (hN : o.dst = none) (g j : Nat) (v : Value) (t : TypeId) (cs : Array Value) (hg : w.heap[g]? = some (.cells cs t (0, 0))) (hrun : (execOp a.eval o).run P w = .ok .skip (w.setCell ⟨g, j, none⟩ v))
    (h : ∀ w1, w1.heap[g]? = some (.cells (cs.setIfInBounds j v) t (0, 0)) → One w w1 g → wpList P ops Q rest a w1) : wpList P ops Q (o :: rest) a w :=
  wpList_plain hgd fun K hK => by
    unfold Oper.wp
    rw [hrun]
    show K (a.put o.dst undef) _
    rw [hN]
    exact hK _ _ (h _ (blk_set hg j v) (One.cell _ _ _ _))
theorem st1_event (hw : Region.wanted o (yielded ops a.tmps) = true) (hN : o.dst = none) (g j : Nat) (v : Value) (t : TypeId) (cs : Array Value) (hg : w.heap[g]? = some (.cells cs t (0, 0))) (hrun : (execOp a.eval o).run P w = .ok .skip (w.setCell ⟨g, j, none⟩ v))
    (h : ∀ w1, w1.heap[g]? = some (.cells (cs.setIfInBounds j v) t (0, 0)) → One w w1 g → K a w1) : if Region.wanted o (yielded ops a.tmps) = true then Oper.wp P o a w K Q else E := by
  rw [if_pos hw]
  unfold Oper.wp
  rw [hrun]
  show K (a.put o.dst undef) _
  rw [hN]
  exact h _ (blk_set hg j v) (One.cell _ _ _ _)
end
section
variable {P : Program} {ops : Array Oper} {rest : List Oper} {o : Oper} {a : Act} {w : World} {K : Act → World → Prop} {Q : Exit → Act → World → Prop} {E : Prop}
theorem call_event {post : Ending → World → Prop} (hw : Region.wanted o (yielded ops a.tmps) = true) (fn : FuncId) (args : Array Value) (hrun : (execOp a.eval o).run P w = .ok (.enter fn args) w) (hc : Calls P fn args w post) (h : ∀ e w', post e w' → ∃ v, e = .returned v ∧ K (a.put o.dst v) w') : if Region.wanted o (yielded ops a.tmps) = true then Oper.wp P o a w K Q else E := by
  rw [if_pos hw]
  unfold Oper.wp
  rw [hrun, Oper.upon_enter]
  refine hc.mono fun e w'' hh => ?_
  obtain ⟨v, rfl, hk⟩ := h e w'' hh
  exact hk
end
/-- what stays as it is while a row grows: all of the call's start, and two blocks -/
structure S2 (w : World) (g5 : Nat) (c5 : Array Value) (T5 : TypeId) (g8 : Nat) (c8 : Array Value) (T8 : TypeId) (W : World) : Prop where
  low : Below w.heap.size w W
  b5 : W.heap[g5]? = some (.cells c5 T5 (0, 0))
  b8 : W.heap[g8]? = some (.cells c8 T8 (0, 0))
theorem S2.of {w W : World} {g5 g8 T5 T8 t5 t8 : Nat} {c5 c8 : Array Value} {L : Nat → Nat} (h : Bs w L W) (h5 : Bk g5 c5 T5 t5 L W) (h8 : Bk g8 c8 T8 t8 L W) : S2 w g5 c5 T5 g8 c8 T8 W := ⟨h.below, h5.blk, h8.blk⟩
theorem S2.alloc {w W : World} {g5 g8 T5 T8 : Nat} {c5 c8 : Array Value} (h : S2 w g5 c5 T5 g8 c8 T8 W) (ob : Obj) : S2 w g5 c5 T5 g8 c8 T8 (W.alloc ob) := ⟨h.low.alloc h.low.size ob, by rw [heap_alloc_old W ob (blk_lt h.b5)]; exact h.b5, by rw [heap_alloc_old W ob (blk_lt h.b8)]; exact h.b8⟩
theorem own_calls (x : S72) (A0 : Option Addr) (c : Nat) (w : World) (hr : (Kd.int .u8).C w A0 x.f1.length x.f1) (hc : x.f1.length ≤ c) (hl : x.f1.length ≤ 536870912) :
    Calls Try.prog 23 #[.agg #[.string x.f0, .slice A0 x.f1.length c, .int .i64 x.f2, .bool x.f3]] w fun e w' => ∃ B d, e = .returned (.agg #[.string x.f0, .slice B x.f1.length d, .int .i64 x.f2, .bool x.f3]) ∧ x.f1.length ≤ d ∧ (∀ L, Firm (lab1 L w.heap.size 0) w' (fun W => (Kd.int .u8).C W B x.f1.length x.f1)) ∧ Below w.heap.size w w' := by
  refine (crierref12_Own.calls x.f0 A0 c x.f1 x.f2 x.f3 x.f0 x.f1 x.f2 x.f3 w hr hc ?_).mono ?_
  · unfold crierref12_Own.f
    rw [if_pos (by simp; omega), List.nil_append]
  · rintro e w' ⟨v, rfl, hR, hb⟩
    obtain ⟨B, d, rfl, hd, _⟩ := firm_R (L := fun _ => 0) hR (fun _ _ _ _ h => h)
    refine ⟨B, d, rfl, hd, fun L => ?_, hb⟩
    obtain ⟨B', d', e', _, hf⟩ := firm_R (L := L) hR (fun _ _ _ _ h => h)
    injection e' with e1 e2 e3
    subst e1
    exact hf
theorem only_drew {X : Nat → Prop} {L : Nat → Nat} {w : World} : Only X L w L w.drew := ⟨Nat.le_refl _, fun _ _ _ => rfl, fun _ _ => rfl⟩
theorem s3_drew {w : World} : Same3 w w.drew := ⟨rfl, rfl, rfl⟩
theorem Copy_calls (au : Int) (ls : List S64) (lr : List S72) (lg : List S66) (A1 : Option Addr) (c1 : Nat) (A2 : Option Addr) (c2 : Nat) (A3 : Option Addr) (c3 : Nat) (w : World) (hr1 : k64.C w A1 ls.length ls) (hc1 : ls.length ≤ c1) (hr2 : k72.C w A2 lr.length lr) (hc2 : lr.length ≤ c2) (hr3 : k66.C w A3 lg.length lg) (hc3 : lg.length ≤ c3) (hz1 : ls.length ≤ 536870912 ∧ ∀ y ∈ ls, ok64 y) (hz2 : lr.length ≤ 536870912 ∧ ∀ y ∈ lr, ok72 y) (hz3 : lg.length ≤ 536870912) :
    Calls Try.prog 8 #[.agg #[.int .i64 au, .slice A1 ls.length c1, .slice A2 lr.length c2, .slice A3 lg.length c3]] w fun e w' => ∃ B1 d1 B2 d2 B3 d3, e = .returned (.agg #[.int .i64 au, .slice B1 ls.length d1, .slice B2 lr.length d2, .slice B3 lg.length d3]) ∧ (k64.C w' B1 ls.length ls ∧ ls.length ≤ d1) ∧ (k72.C w' B2 lr.length lr ∧ lr.length ≤ d2) ∧ (k66.C w' B3 lg.length lg ∧ lg.length ≤ d3) ∧ Below w.heap.size w w' := by
  have hb1 := hz1.1; have hb2 := hz2.1; have HZ1 := Aside0.mk hz1.2; have HZ2 := Aside0.mk hz2.2
  have HR1 := Aside0.mk hr1; have HC1 := Aside0.mk hc1; have HR2 := Aside0.mk hr2; have HC2 := Aside0.mk hc2; have HR3 := Aside0.mk hr3; have HC3 := Aside0.mk hc3
  clear hr1 hc1 hr2 hc2 hr3 hc3 hz1 hz2
  obtain ⟨L0, hL0⟩ : ∃ z : Nat → Nat, z = fun _ => 0 := ⟨_, rfl⟩
  have HBs : Aside0 (Bs w L0 w) := ⟨⟨fun k hk => by rw [hL0], Below.refl _ _⟩⟩; clear hL0
  have HuI := Aside0.mk (Try.underlying26); have HuS := Aside0.mk (Try.underlying64); have HuF := Aside0.mk (Try.underlying76); have HuM := Aside0.mk (Try.underlying72)
  go_enter Try.func8, Try.ntmps8
  go_wp2_with (first | ((with_reducible refine gate_dst (N := 1) rfl ?_); (refine box_event ?hg (N := 1) ?hd (cs := #[.int .i64 au, .slice A1 ls.length c1, .slice A2 lr.length c2, .slice A3 lg.length c3]) (t := 26) ?hr ?_; (case hd => rfl); (case hg => rfl); (case hr => first | (go_simp; done) | (go_simp; rfl)); intro g1 hg w1_ hbox hb; have hO := on_new (L := L0) 210 hb; have s3 := s3_below hb; have n0_ := Aside0.mk (HBs.out.step hO (fun h => h) s3); have n1_ := Aside0.mk (Bk.new (L := L0) 210 hg hbox); generalize lab1 L0 _ 210 = L1 at n0_ n1_; clear hO s3 HBs; have HBs := n0_; have HB1 := n1_; clear n0_ n1_; clear hg hbox hb)) | ((with_reducible refine gate_dst (N := 2) rfl ?_); (refine box_event ?hg (N := 2) ?hd (cs := #[.int .i64 0, .slice none 0 0, .slice none 0 0, .slice none 0 0]) (t := 26) ?hr ?_; (case hd => rfl); (case hg => rfl); (case hr => first | (go_simp; done) | (go_simp; rfl)); intro g2 hg w2_ hbox hb; have hO := on_new (L := L1) 214 hb; have s3 := s3_below hb; have n0_ := Aside0.mk (HBs.out.step hO (fun h => h) s3); have n1_ := Aside0.mk (HB1.out.step hO (fun h => h)); have n2_ := Aside0.mk (Bk.new (L := L1) 214 hg hbox); generalize lab1 L1 _ 214 = L2 at n0_ n1_ n2_; clear hO s3 HBs HB1; have HBs := n0_; have HB1 := n1_; have HB2 := n2_; clear n0_ n1_ n2_; clear hg hbox hb)) | ((with_reducible refine gate_dst (N := 14) rfl ?_); (refine val_list rfl (v := .int .i64 au) ?hr ?_; (case hr => (have hc_ := (blk_cell HB1.out.blk 0).trans rfl; go_simp; try rfl)))) | ((with_reducible refine gate_dst (N := 3) rfl ?_); (refine box_event ?hg (N := 3) ?hd (cs := #[.int .i64 0, .slice none 0 0, .slice none 0 0, .slice none 0 0]) (t := 26) ?hr ?_; (case hd => rfl); (case hg => rfl); (case hr => first | (go_simp; done) | (go_simp; rfl)); intro g3 hg w3_ hbox hb; have hO := on_new (L := L2) 211 hb; have s3 := s3_below hb; have n0_ := Aside0.mk (HBs.out.step hO (fun h => h) s3); have n1_ := Aside0.mk (HB1.out.step hO (fun h => h)); have n2_ := Aside0.mk (HB2.out.step hO (fun h => h)); have n3_ := Aside0.mk (Bk.new (L := L2) 211 hg hbox); generalize lab1 L2 _ 211 = L3 at n0_ n1_ n2_ n3_; clear hO s3 HBs HB1 HB2; have HBs := n0_; have HB1 := n1_; have HB2 := n2_; have HB3 := n3_; clear n0_ n1_ n2_ n3_; clear hg hbox hb)) | ((with_reducible refine gate_st (y := .tmp 15) rfl ?_); (refine ev_store rfl rfl 26 (.tmp 3) (.tmp 15) rfl g3 0 rfl 26 _ _ HB3.out.blk rfl (by kernel_rfl) (Nat.le_of_ble_eq_true rfl) rfl ?_; intro w4_ hx hk; have hO := on_one hk HB3.out.lab; have s3 := s3_one hk; have n0_ := Aside0.mk (HBs.out.step hO (fun h => by cases h) s3); have n1_ := Aside0.mk (HB1.out.step hO (fun h => by cases h)); have n2_ := Aside0.mk (HB2.out.step hO (fun h => by cases h)); have n3_ := Aside0.mk (HB3.out.set (show w4_.heap[g3]? = some (.cells #[.int .i64 au, .slice none 0 0, .slice none 0 0, .slice none 0 0] 26 (0, 0)) from hx)); clear hO s3 HBs HB1 HB2 HB3; have HBs := n0_; have HB1 := n1_; have HB2 := n2_; have HB3 := n3_; clear n0_ n1_ n2_ n3_; clear hx hk)))
  have HV1 : Aside0 (Ow k64 64 w.heap.size (.slice none 0 0) [] 201 L3 w4_) := ⟨Ow.nil _ _ _ _ _ _⟩
  go_loopw [4] (fun i wr => ∃ (k : Nat) (Lk : Nat → Nat) (V1 : Value), k ≤ ls.length ∧ i = .int .i64 k ∧ Aside0 (Bs w Lk wr) ∧ Aside0 (Bk g1 #[.int .i64 au, .slice A1 ls.length c1, .slice A2 lr.length c2, .slice A3 lg.length c3] 26 210 Lk wr) ∧ Aside0 (Bk g2 #[.int .i64 0, .slice none 0 0, .slice none 0 0, .slice none 0 0] 26 214 Lk wr) ∧ Aside0 (Bk g3 #[.int .i64 au, V1, .slice none 0 0, .slice none 0 0] 26 211 Lk wr) ∧ Aside0 (Ow k64 64 w.heap.size V1 (ls.take k) 201 Lk wr)) (fun i _ => ls.length - (intOf i).toNat)
  case atStart => exact ⟨0, _, _, Nat.zero_le _, rfl, HBs, HB1, HB2, HB3, ⟨by rw [List.take_zero]; exact HV1.out⟩⟩
  case round =>
    clear HBs HB1 HB2 HB3 HV1
    obtain ⟨k, Lk, V1, hk, rfl, HBs, HB1, HB2, HB3, HV1⟩ := hrel
    obtain ⟨wo, hwo⟩ : ∃ x, x = wr := ⟨_, rfl⟩; subst hwo
    by_cases hlt : k < ls.length
    · skip
      obtain ⟨adX, XA1, xc1, XA3, xc3, XA4, xc4, XA5, xc5, e_, r0, r1, r2, r3, r4, r5, l1_, g1_, l3_, g3_, l4_, g4_, l5_, g5_⟩ := at_T64 HR1.out (k : Int) (by omega) (by omega)
      skip
      obtain ⟨x, hx_⟩ : ∃ z, z = rd_T64 (ls) k := ⟨_, rfl⟩
      rw [← hx_, Int.toNat_natCast] at r0 r1 r2 r3 r4 r5
      rw [← hx_] at l1_ g1_ l3_ g3_ l4_ g4_ l5_ g5_
      have hx' := at_k hlt hx_; have HXX := Aside0.mk hx'; have HMX := Aside0.mk (List.mem_of_getElem? hx'); clear hx_ hx'
      have FX0 := Aside0.mk r0; clear r0
      have FX1 := Aside0.mk r1; clear r1
      have FX2 := Aside0.mk r2; clear r2
      have FX3 := Aside0.mk r3; clear r3
      have FX4 := Aside0.mk r4; clear r4
      have FX5 := Aside0.mk r5; clear r5
      have HLX1 := Aside0.mk l1_; have HEX1 := Aside0.mk g1_; clear l1_ g1_
      have HLX3 := Aside0.mk l3_; have HEX3 := Aside0.mk g3_; clear l3_ g3_
      have HLX4 := Aside0.mk l4_; have HEX4 := Aside0.mk g4_; clear l4_ g4_
      have HLX5 := Aside0.mk l5_; have HEX5 := Aside0.mk g5_; clear l5_ g5_
      subst e_
      have HOK : Aside0 ((x.f1.length ≤ 536870912) ∧ (x.f2.f1.length ≤ 536870912 ∧ ∀ y ∈ x.f2.f1, ok76 y) ∧ (x.f2.f2.length ≤ 536870912 ∧ ∀ y ∈ x.f2.f2, ok72 y) ∧ (x.f3.length ≤ 536870912)) := ⟨HZ1.out x HMX.out⟩
      have o1 := HOK.out.1; have o3 := HOK.out.2.1.1; have o4 := HOK.out.2.2.1.1; have o5 := HOK.out.2.2.2
      go_upto_region 8 with (first | ((with_reducible refine gate_dst (N := 18) rfl ?_); (refine val_list rfl (v := (.slice (some adX) ls.length c1)) ?hr ?_; (case hr => (have hc_ := (blk_cell HB1.out.blk 1).trans rfl; go_simp; try rfl)))) | ((with_reducible refine gate_dst (N := 24) rfl ?_); (refine val_list rfl (v := (.slice (some adX) ls.length c1)) ?hr ?_; (case hr => (have hc_ := (blk_cell HB1.out.blk 1).trans rfl; go_simp; try rfl)))) | ((with_reducible refine gate_dst (N := 27) rfl ?_); (refine val_list rfl (v := (.agg #[.string x.f0, .slice XA1 x.f1.length xc1, .int .i64 x.f2.f0, .slice XA3 x.f2.f1.length xc3, .slice XA4 x.f2.f2.length xc4, .slice XA5 x.f3.length xc5])) ?hr ?_; (case hr => (have FX0_ := pw_cell_below HBs.out.below FX0.out; have FX1_ := pw_cell_below HBs.out.below FX1.out; have FX2_ := pw_cell_below HBs.out.below FX2.out; have FX3_ := pw_cell_below HBs.out.below FX3.out; have FX4_ := pw_cell_below HBs.out.below FX4.out; have FX5_ := pw_cell_below HBs.out.below FX5.out; go_simp; try rfl)))) | ((with_reducible refine gate_dst (N := 5) rfl ?_); (refine box_event ?hg (N := 5) ?hd (cs := #[.string ⟨#[]⟩, .slice none 0 0, .int .i64 0, .slice none 0 0, .slice none 0 0, .slice none 0 0]) (t := 64) ?hr ?_; (case hd => rfl); (case hg => rfl); (case hr => first | (go_simp; done) | (go_simp; rfl)); intro g5 hg w5_ hbox hb; have hO := on_new (L := Lk) 215 hb; have s3 := s3_below hb; have n0_ := Aside0.mk (HBs.out.step hO (fun h => h) s3); have n1_ := Aside0.mk (HB1.out.step hO (fun h => h)); have n2_ := Aside0.mk (HB2.out.step hO (fun h => h)); have n3_ := Aside0.mk (HB3.out.step hO (fun h => h)); have n4_ := Aside0.mk (HV1.out.step hO (fun h => h) (fun h => h)); have n5_ := Aside0.mk (Bk.new (L := Lk) 215 hg hbox); generalize lab1 Lk _ 215 = L11 at n0_ n1_ n2_ n3_ n4_ n5_; clear hO s3 HBs HB1 HB2 HB3 HV1; have HBs := n0_; have HB1 := n1_; have HB2 := n2_; have HB3 := n3_; have HV1 := n4_; have HB5 := n5_; clear n0_ n1_ n2_ n3_ n4_ n5_; clear hg hbox hb)) | ((with_reducible refine gate_st (y := .tmp 27) rfl ?_); (refine ev_store rfl rfl 64 (.tmp 5) (.tmp 27) rfl g5 0 rfl 64 _ _ HB5.out.blk rfl (by kernel_rfl) (Nat.le_of_ble_eq_true rfl) rfl ?_; intro w6_ hx hk; have hO := on_one hk HB5.out.lab; have s3 := s3_one hk; have n0_ := Aside0.mk (HBs.out.step hO (fun h => by cases h) s3); have n1_ := Aside0.mk (HB1.out.step hO (fun h => by cases h)); have n2_ := Aside0.mk (HB2.out.step hO (fun h => by cases h)); have n3_ := Aside0.mk (HB3.out.step hO (fun h => by cases h)); have n4_ := Aside0.mk (HV1.out.step hO (fun h => by cases h) (fun h => by cases h)); have n5_ := Aside0.mk (HB5.out.set (show w6_.heap[g5]? = some (.cells #[.string x.f0, .slice XA1 x.f1.length xc1, .int .i64 x.f2.f0, .slice XA3 x.f2.f1.length xc3, .slice XA4 x.f2.f2.length xc4, .slice XA5 x.f3.length xc5] 64 (0, 0)) from hx)); clear hO s3 HBs HB1 HB2 HB3 HV1 HB5; have HBs := n0_; have HB1 := n1_; have HB2 := n2_; have HB3 := n3_; have HV1 := n4_; have HB5 := n5_; clear n0_ n1_ n2_ n3_ n4_ n5_; clear hx hk)))
      skip
      go_cut [8] (fun v8 wc => ∃ (g8 : Nat) (Lc : Nat → Nat) (SA : Option Addr) (sc : Nat) (IA : Option Addr) (ic : Nat), v8 = .pointer (some ⟨g8, 0, none⟩) ∧ Aside0 (x.f1.length ≤ sc) ∧ Aside0 (x.f3.length ≤ ic) ∧ Aside0 (Bs w Lc wc) ∧ Aside0 (Bk g1 #[.int .i64 au, .slice (some adX) ls.length c1, .slice A2 lr.length c2, .slice A3 lg.length c3] 26 210 Lc wc) ∧ Aside0 (Bk g2 #[.int .i64 0, .slice none 0 0, .slice none 0 0, .slice none 0 0] 26 214 Lc wc) ∧ Aside0 (Bk g3 #[.int .i64 au, V1, .slice none 0 0, .slice none 0 0] 26 211 Lc wc) ∧ Aside0 (Ow k64 64 w.heap.size V1 (ls.take k) 201 Lc wc) ∧ Aside0 (Bk g5 #[.string x.f0, .slice XA1 x.f1.length xc1, .int .i64 x.f2.f0, .slice XA3 x.f2.f1.length xc3, .slice XA4 x.f2.f2.length xc4, .slice XA5 x.f3.length xc5] 64 215 Lc wc) ∧ Aside0 (Bk g8 #[.string x.f0, .slice SA x.f1.length sc, .int .i64 0, .slice none 0 0, .slice none 0 0, .slice IA x.f3.length ic] 64 212 Lc wc) ∧ Aside0 (Firm Lc wc (fun W => k90.C W SA x.f1.length x.f1)) ∧ Aside0 (Firm Lc wc (fun W => (Kd.int .i64).C W IA x.f3.length x.f3)))
      case first =>
        skip
        have HBw := Aside0.mk HBs.out.below
        obtain ⟨wq, hwq⟩ : ∃ z, z = w6_ := ⟨_, rfl⟩; rw [← hwq] at HBs HB1 HB2 HB3 HV1 HB5 HBw; rw [← hwq]; clear hwq
        have G50 : wq.cell? ⟨g5, 0, none⟩ = some (.string x.f0) := (blk_cell HB5.out.blk 0).trans rfl; have G51 : wq.cell? ⟨g5, 1, none⟩ = some (.slice XA1 x.f1.length xc1) := (blk_cell HB5.out.blk 1).trans rfl; have G55 : wq.cell? ⟨g5, 5, none⟩ = some (.slice XA5 x.f3.length xc5) := (blk_cell HB5.out.blk 5).trans rfl
        refine wp_region_noPanic ?_
        refine wp_region_last_drew (S := fun W => Below wq.heap.size wq W) (ds := []) (by kernel_rfl) ?hS0 (fun hHeld => ?_)
        case hS0 => exact (Below.refl _ _).drew
        have hO := only_drew (X := No) (L := L11) (w := wq); have s3 := s3_drew (w := wq); have n0_ := Aside0.mk (HBs.out.step hO (fun h => h) s3); have n1_ := Aside0.mk (HB1.out.step hO (fun h => h)); have n2_ := Aside0.mk (HB2.out.step hO (fun h => h)); have n3_ := Aside0.mk (HB3.out.step hO (fun h => h)); have n4_ := Aside0.mk (HV1.out.step hO (fun h => h) (fun h => h)); have n5_ := Aside0.mk (HB5.out.step hO (fun h => h)); clear hO s3 HBs HB1 HB2 HB3 HV1 HB5; have HBs := n0_; have HB1 := n1_; have HB2 := n2_; have HB3 := n3_; have HV1 := n4_; have HB5 := n5_; clear n0_ n1_ n2_ n3_ n4_ n5_; obtain ⟨Lw0, hLw⟩ : ∃ z, z = L11 := ⟨_, rfl⟩; rw [← hLw] at HBs HB1 HB2 HB3 HV1 HB5; clear hLw
        refine wpAnyLast_take (i := 0) (oi := { dst := some 28, op := Go.Op.fieldAddr 64 (Go.Operand.tmp 5) 0, type := 0, pos := "crierref15.go:390", after := #[], guard := none }) (v := ?v1) rfl (by kernel_rfl) (by kernel_rfl) (by kernel_rfl) (by kernel_rfl) (by kernel_rfl) (fun _ _ _ h => h) (Or.inl ⟨by rfl, ?hy1⟩) hHeld ?rest1
        case hy1 => (intro w_ hSw; (try dsimp only at hSw); (try go_simp); (try with_reducible rfl))
        try simp only [Act.put, List.setIfInBounds_toArray, List.set_cons_zero, List.set_cons_succ]
        refine wpAnyLast_take (i := 1) (oi := { dst := some 29, op := Go.Op.load 9 (Go.Operand.tmp 28), type := 9, pos := "crierref15.go:390", after := #[{ on := 0, ground := Go.Ground.data }], guard := none }) (v := ?v2) rfl (by kernel_rfl) (by kernel_rfl) (by kernel_rfl) (by kernel_rfl) (by kernel_rfl) (fun _ _ _ h => h) (Or.inl ⟨by rfl, ?hy2⟩) hHeld ?rest2
        case hy2 => (intro w_ hSw; (try dsimp only at hSw); have G50_ := pw_cell_below hSw G50; have G51_ := pw_cell_below hSw G51; have G55_ := pw_cell_below hSw G55; (try go_simp); (try with_reducible rfl))
        try simp only [Act.put, List.setIfInBounds_toArray, List.set_cons_zero, List.set_cons_succ]
        refine wpAnyLast_take (i := 2) (oi := { dst := some 30, op := Go.Op.move (Go.Operand.tmp 6), type := 59, pos := "crierref15.go:390", after := #[], guard := none }) (v := ?v3) rfl (by kernel_rfl) (by kernel_rfl) (by kernel_rfl) (by kernel_rfl) (by kernel_rfl) (fun _ _ _ h => h) (Or.inl ⟨by rfl, ?hy3⟩) hHeld ?rest3
        case hy3 => (intro w_ hSw; (try dsimp only at hSw); (try go_simp); (try with_reducible rfl))
        try simp only [Act.put, List.setIfInBounds_toArray, List.set_cons_zero, List.set_cons_succ]
        refine wpAnyLast_take (i := 3) (oi := { dst := some 31, op := Go.Op.fieldAddr 64 (Go.Operand.tmp 5) 1, type := 0, pos := "crierref15.go:390", after := #[], guard := none }) (v := ?v4) rfl (by kernel_rfl) (by kernel_rfl) (by kernel_rfl) (by kernel_rfl) (by kernel_rfl) (fun _ _ _ h => h) (Or.inl ⟨by rfl, ?hy4⟩) hHeld ?rest4
        case hy4 => (intro w_ hSw; (try dsimp only at hSw); (try go_simp); (try with_reducible rfl))
        try simp only [Act.put, List.setIfInBounds_toArray, List.set_cons_zero, List.set_cons_succ]
        refine wpAnyLast_take (i := 4) (oi := { dst := some 32, op := Go.Op.load 59 (Go.Operand.tmp 31), type := 59, pos := "crierref15.go:390", after := #[{ on := 3, ground := Go.Ground.data }], guard := none }) (v := ?v5) rfl (by kernel_rfl) (by kernel_rfl) (by kernel_rfl) (by kernel_rfl) (by kernel_rfl) (fun _ _ _ h => h) (Or.inl ⟨by rfl, ?hy5⟩) hHeld ?rest5
        case hy5 => (intro w_ hSw; (try dsimp only at hSw); have G50_ := pw_cell_below hSw G50; have G51_ := pw_cell_below hSw G51; have G55_ := pw_cell_below hSw G55; (try go_simp); (try with_reducible rfl))
        try simp only [Act.put, List.setIfInBounds_toArray, List.set_cons_zero, List.set_cons_succ]
        refine wpAnyLast_take (i := 6) (oi := { dst := some 34, op := Go.Op.move (Go.Operand.tmp 7), type := 30, pos := "crierref15.go:390", after := #[], guard := none }) (v := ?v6) rfl (by kernel_rfl) (by kernel_rfl) (by kernel_rfl) (by kernel_rfl) (by kernel_rfl) (fun _ _ _ h => h) (Or.inl ⟨by rfl, ?hy6⟩) hHeld ?rest6
        case hy6 => (intro w_ hSw; (try dsimp only at hSw); (try go_simp); (try with_reducible rfl))
        try simp only [Act.put, List.setIfInBounds_toArray, List.set_cons_zero, List.set_cons_succ]
        refine wpAnyLast_take (i := 7) (oi := { dst := some 35, op := Go.Op.fieldAddr 64 (Go.Operand.tmp 5) 3, type := 0, pos := "crierref15.go:390", after := #[], guard := none }) (v := ?v7) rfl (by kernel_rfl) (by kernel_rfl) (by kernel_rfl) (by kernel_rfl) (by kernel_rfl) (fun _ _ _ h => h) (Or.inl ⟨by rfl, ?hy7⟩) hHeld ?rest7
        case hy7 => (intro w_ hSw; (try dsimp only at hSw); (try go_simp); (try with_reducible rfl))
        try simp only [Act.put, List.setIfInBounds_toArray, List.set_cons_zero, List.set_cons_succ]
        refine wpAnyLast_take (i := 8) (oi := { dst := some 36, op := Go.Op.load 30 (Go.Operand.tmp 35), type := 30, pos := "crierref15.go:390", after := #[{ on := 7, ground := Go.Ground.data }], guard := none }) (v := ?v8) rfl (by kernel_rfl) (by kernel_rfl) (by kernel_rfl) (by kernel_rfl) (by kernel_rfl) (fun _ _ _ h => h) (Or.inl ⟨by rfl, ?hy8⟩) hHeld ?rest8
        case hy8 => (intro w_ hSw; (try dsimp only at hSw); have G50_ := pw_cell_below hSw G50; have G51_ := pw_cell_below hSw G51; have G55_ := pw_cell_below hSw G55; (try go_simp); (try with_reducible rfl))
        try simp only [Act.put, List.setIfInBounds_toArray, List.set_cons_zero, List.set_cons_succ]
        refine wpAnyLast_ready (rs := [5, 11]) (by kernel_rfl) (by simp) ?_
        refine AllReadyL.cons (o := { dst := some 33, op := Go.Op.call { callee := Go.Callee.builtin Go.Builtin.append, args := #[Go.Operand.tmp 30, Go.Operand.tmp 32], argTypes := #[59, 59] }, type := 59, pos := "crierref15.go:390", after := #[{ on := 2, ground := Go.Ground.data }, { on := 4, ground := Go.Ground.data }], guard := none }) rfl (by decide) (fun K hK => ?w5_9) (AllReadyL.cons (o := { dst := some 8, op := Go.Op.alloc 64, type := 0, pos := "crierref15.go:390", after := #[], guard := none }) rfl (by decide) (fun K hK => ?w11_9) (AllReadyL.nil))
        case w5_9 =>
          refine app_nil_event k90 (by rfl) (.tmp 30) (.tmp 32) 59 rfl 90 (.agg #[(.string ⟨#[]⟩), (.int .i64 0)]) 24 Try.underlying59 info90 rfl (by decide) (by decide) rfl (fun _ _ _ _ h => h) XA1 x.f1.length xc1 rfl x.f1 (came_now hp90 (below_step HBw.out hHeld) (Nat.le_refl _) HEX1.out) (by omega) (fun v10 w10_ ho hb => ?_)
          obtain ⟨SA, sc, e_, hsc, hf_⟩ := firm_own (L := Lw0) ho (fun _ _ _ _ h => h); subst e_
          have hO := on_new (L := Lw0) 0 hb; have s3 := s3_below hb
          have hSn := below_step hHeld hb
          have n0_ := Aside0.mk (HBs.out.step hO (fun h => h) s3); have n1_ := Aside0.mk (HB1.out.step hO (fun h => h)); have n2_ := Aside0.mk (HB2.out.step hO (fun h => h)); have n3_ := Aside0.mk (HB3.out.step hO (fun h => h)); have n4_ := Aside0.mk (HV1.out.step hO (fun h => h) (fun h => h)); have n5_ := Aside0.mk (HB5.out.step hO (fun h => h)); have n6_ := Aside0.mk hf_; generalize lab1 Lw0 _ 0 = Lw1 at n0_ n1_ n2_ n3_ n4_ n5_ n6_; clear hO s3 HBs HB1 HB2 HB3 HV1 HB5; have HBs := n0_; have HB1 := n1_; have HB2 := n2_; have HB3 := n3_; have HV1 := n4_; have HB5 := n5_; have FSA := n6_; clear n0_ n1_ n2_ n3_ n4_ n5_ n6_
          try clear hg hbox
          try clear ho hf_
          clear hb
          refine hK.out _ _ hSn (fun hHeld2 => ?_)
          clear hK K hHeld hSn; have hHeld := hHeld2; clear hHeld2
          try simp only [Act.put, List.setIfInBounds_toArray, List.set_cons_zero, List.set_cons_succ]
          refine wpAnyLast_ready (rs := [9, 11]) (by kernel_rfl) (by simp) ?_
          refine AllReadyL.cons (o := { dst := some 37, op := Go.Op.call { callee := Go.Callee.builtin Go.Builtin.append, args := #[Go.Operand.tmp 34, Go.Operand.tmp 36], argTypes := #[30, 30] }, type := 30, pos := "crierref15.go:390", after := #[{ on := 6, ground := Go.Ground.data }, { on := 8, ground := Go.Ground.data }, { on := 5, ground := Go.Ground.chain }], guard := none }) rfl (by decide) (fun K hK => ?w9_11) (AllReadyL.cons (o := { dst := some 8, op := Go.Op.alloc 64, type := 0, pos := "crierref15.go:390", after := #[], guard := none }) rfl (by decide) (fun K hK => ?w11_11) (AllReadyL.nil))
          case w9_11 =>
            refine app_nil_event (Kd.int .i64) (by rfl) (.tmp 34) (.tmp 36) 30 rfl 3 (.int .i64 0) 8 Try.underlying30 info3 rfl (by decide) (by decide) rfl (fun _ _ _ _ h => h) XA5 x.f3.length xc5 rfl x.f3 (came_now (Kd.heap_int .i64) (below_step HBw.out hHeld) (Nat.le_refl _) HEX5.out) (by omega) (fun v12 w12_ ho hb => ?_)
            obtain ⟨IA, ic, e_, hic, hf_⟩ := firm_own (L := Lw1) ho (fun _ _ _ _ h => h); subst e_
            have hO := on_new (L := Lw1) 0 hb; have s3 := s3_below hb
            have hSn := below_step hHeld hb
            have n0_ := Aside0.mk (HBs.out.step hO (fun h => h) s3); have n1_ := Aside0.mk (HB1.out.step hO (fun h => h)); have n2_ := Aside0.mk (HB2.out.step hO (fun h => h)); have n3_ := Aside0.mk (HB3.out.step hO (fun h => h)); have n4_ := Aside0.mk (HV1.out.step hO (fun h => h) (fun h => h)); have n5_ := Aside0.mk (HB5.out.step hO (fun h => h)); have n6_ := Aside0.mk (FSA.out.only hO (fun h => h)); have n7_ := Aside0.mk hf_; generalize lab1 Lw1 _ 0 = Lw2 at n0_ n1_ n2_ n3_ n4_ n5_ n6_ n7_; clear hO s3 HBs HB1 HB2 HB3 HV1 HB5 FSA; have HBs := n0_; have HB1 := n1_; have HB2 := n2_; have HB3 := n3_; have HV1 := n4_; have HB5 := n5_; have FSA := n6_; have FIA := n7_; clear n0_ n1_ n2_ n3_ n4_ n5_ n6_ n7_
            try clear hg hbox
            try clear ho hf_
            clear hb
            refine hK.out _ _ hSn (fun hHeld2 => ?_)
            clear hK K hHeld hSn; have hHeld := hHeld2; clear hHeld2
            try simp only [Act.put, List.setIfInBounds_toArray, List.set_cons_zero, List.set_cons_succ]
            refine wpAnyLast_take (i := 10) (oi := { dst := some 38, op := Go.Op.build 64 #[(0, Go.Operand.tmp 29), (1, Go.Operand.tmp 33), (3, Go.Operand.tmp 37)], type := 64, pos := "crierref15.go:390", after := #[{ on := 1, ground := Go.Ground.data }, { on := 5, ground := Go.Ground.data }, { on := 9, ground := Go.Ground.data }], guard := none }) (v := ?v13) rfl (by kernel_rfl) (by kernel_rfl) (by kernel_rfl) (by kernel_rfl) (by kernel_rfl) (fun _ _ _ h => h) (Or.inl ⟨by rfl, ?hy13⟩) hHeld ?rest13
            case hy13 => (intro w_ hSw; (try dsimp only at hSw); (try go_simp); (try with_reducible rfl))
            try simp only [Act.put, List.setIfInBounds_toArray, List.set_cons_zero, List.set_cons_succ]
            refine wpAnyLast_ready (rs := [11]) (by kernel_rfl) (by simp) ?_
            refine AllReadyL.cons (o := { dst := some 8, op := Go.Op.alloc 64, type := 0, pos := "crierref15.go:390", after := #[], guard := none }) rfl (by decide) (fun K hK => ?_) AllReadyL.nil
            refine al_event (cs := #[.string ⟨#[]⟩, .slice none 0 0, .int .i64 0, .slice none 0 0, .slice none 0 0, .slice none 0 0]) (t := 64) (by rfl) ?hr14 (fun g8 hg w14_ hbox hb => ?_)
            case hr14 => (first | (go_simp; done) | (go_simp; rfl))
            have hO := on_new (L := Lw2) 212 hb; have s3 := s3_below hb
            have hSn := below_step hHeld hb
            have G8 : Aside0 (wq.heap.size ≤ g8) := ⟨by rw [hg]; exact hHeld.size⟩
            have n0_ := Aside0.mk (HBs.out.step hO (fun h => h) s3); have n1_ := Aside0.mk (HB1.out.step hO (fun h => h)); have n2_ := Aside0.mk (HB2.out.step hO (fun h => h)); have n3_ := Aside0.mk (HB3.out.step hO (fun h => h)); have n4_ := Aside0.mk (HV1.out.step hO (fun h => h) (fun h => h)); have n5_ := Aside0.mk (HB5.out.step hO (fun h => h)); have n6_ := Aside0.mk (FSA.out.only hO (fun h => h)); have n7_ := Aside0.mk (FIA.out.only hO (fun h => h)); have n8_ := Aside0.mk (Bk.new (L := Lw2) 212 hg hbox); generalize lab1 Lw2 _ 212 = Lw3 at n0_ n1_ n2_ n3_ n4_ n5_ n6_ n7_ n8_; clear hO s3 HBs HB1 HB2 HB3 HV1 HB5 FSA FIA; have HBs := n0_; have HB1 := n1_; have HB2 := n2_; have HB3 := n3_; have HV1 := n4_; have HB5 := n5_; have FSA := n6_; have FIA := n7_; have HB8 := n8_; clear n0_ n1_ n2_ n3_ n4_ n5_ n6_ n7_ n8_
            try clear hg hbox
            try clear ho hf_
            clear hb
            refine hK.out _ _ hSn (fun hHeld2 => ?_)
            clear hK K hHeld hSn; have hHeld := hHeld2; clear hHeld2
            try simp only [Act.put, List.setIfInBounds_toArray, List.set_cons_zero, List.set_cons_succ]
            refine wpAnyLast_ready (rs := [12]) (by kernel_rfl) (by simp) ?_
            refine AllReadyL.cons (o := { dst := none, op := Go.Op.store 64 (Go.Operand.tmp 8) (Go.Operand.tmp 38), type := 0, pos := "crierref15.go:390", after := #[{ on := 11, ground := Go.Ground.data }, { on := 10, ground := Go.Ground.data }, { on := 9, ground := Go.Ground.chain }, { on := 0, ground := Go.Ground.phase }, { on := 1, ground := Go.Ground.phase }, { on := 2, ground := Go.Ground.phase }, { on := 3, ground := Go.Ground.phase }, { on := 4, ground := Go.Ground.phase }, { on := 5, ground := Go.Ground.phase }, { on := 6, ground := Go.Ground.phase }, { on := 7, ground := Go.Ground.phase }, { on := 8, ground := Go.Ground.phase }, { on := 9, ground := Go.Ground.phase }, { on := 10, ground := Go.Ground.phase }, { on := 11, ground := Go.Ground.phase }], guard := none }) rfl (by decide) (fun K hK => ?_) AllReadyL.nil
            refine st_event (by rfl) rfl 64 (.tmp 8) (.tmp 38) rfl g8 0 rfl 64 _ _ HB8.out.blk rfl (by kernel_rfl) (Nat.le_of_ble_eq_true rfl) rfl (fun w15_ hx hk => ?_)
            have hSn := hk.below hHeld (by have h1 := HB8.out.lab; exact G8.out)
            have hO := on_one hk HB8.out.lab; have s3 := s3_one hk
            have n0_ := Aside0.mk (HBs.out.step hO (fun h => by cases h) s3); have n1_ := Aside0.mk (HB1.out.step hO (fun h => by cases h)); have n2_ := Aside0.mk (HB2.out.step hO (fun h => by cases h)); have n3_ := Aside0.mk (HB3.out.step hO (fun h => by cases h)); have n4_ := Aside0.mk (HV1.out.step hO (fun h => by cases h) (fun h => by cases h)); have n5_ := Aside0.mk (HB5.out.step hO (fun h => by cases h)); have n6_ := Aside0.mk (FSA.out.only hO (fun h => by cases h)); have n7_ := Aside0.mk (FIA.out.only hO (fun h => by cases h)); have n8_ := Aside0.mk (HB8.out.set (show w15_.heap[g8]? = some (.cells #[.string x.f0, .slice SA x.f1.length sc, .int .i64 0, .slice none 0 0, .slice none 0 0, .slice IA x.f3.length ic] 64 (0, 0)) from hx)); clear hO s3 HBs HB1 HB2 HB3 HV1 HB5 FSA FIA HB8; have HBs := n0_; have HB1 := n1_; have HB2 := n2_; have HB3 := n3_; have HV1 := n4_; have HB5 := n5_; have FSA := n6_; have FIA := n7_; have HB8 := n8_; clear n0_ n1_ n2_ n3_ n4_ n5_ n6_ n7_ n8_
            clear hx hk
            obtain ⟨Lw4, hLw⟩ : ∃ z, z = Lw3 := ⟨_, rfl⟩; rw [← hLw] at HBs HB1 HB2 HB3 HV1 HB5 FSA FIA HB8; clear hLw
            refine hK.out _ _ hSn (fun hHeld2 => ?_)
            clear hK K hHeld hSn; have hHeld := hHeld2; clear hHeld2
            try simp only [Act.put, List.setIfInBounds_toArray, List.set_cons_zero, List.set_cons_succ]
            refine wpAnyLast_done (by kernel_rfl) ?_ _
            refine NoPanic.normal ?_
            try go_wp2
            go_meet
            case rel => exact ⟨g8, Lw4, SA, sc, IA, ic, rfl, ⟨hsc⟩, ⟨hic⟩, HBs, HB1, HB2, HB3, HV1, HB5, HB8, FSA, FIA⟩
          case w11_11 =>
            refine al_event (cs := #[.string ⟨#[]⟩, .slice none 0 0, .int .i64 0, .slice none 0 0, .slice none 0 0, .slice none 0 0]) (t := 64) (by rfl) ?hr16 (fun g8 hg w16_ hbox hb => ?_)
            case hr16 => (first | (go_simp; done) | (go_simp; rfl))
            have hO := on_new (L := Lw1) 212 hb; have s3 := s3_below hb
            have hSn := below_step hHeld hb
            have G8 : Aside0 (wq.heap.size ≤ g8) := ⟨by rw [hg]; exact hHeld.size⟩
            have n0_ := Aside0.mk (HBs.out.step hO (fun h => h) s3); have n1_ := Aside0.mk (HB1.out.step hO (fun h => h)); have n2_ := Aside0.mk (HB2.out.step hO (fun h => h)); have n3_ := Aside0.mk (HB3.out.step hO (fun h => h)); have n4_ := Aside0.mk (HV1.out.step hO (fun h => h) (fun h => h)); have n5_ := Aside0.mk (HB5.out.step hO (fun h => h)); have n6_ := Aside0.mk (FSA.out.only hO (fun h => h)); have n7_ := Aside0.mk (Bk.new (L := Lw1) 212 hg hbox); generalize lab1 Lw1 _ 212 = Lw2 at n0_ n1_ n2_ n3_ n4_ n5_ n6_ n7_; clear hO s3 HBs HB1 HB2 HB3 HV1 HB5 FSA; have HBs := n0_; have HB1 := n1_; have HB2 := n2_; have HB3 := n3_; have HV1 := n4_; have HB5 := n5_; have FSA := n6_; have HB8 := n7_; clear n0_ n1_ n2_ n3_ n4_ n5_ n6_ n7_
            try clear hg hbox
            try clear ho hf_
            clear hb
            refine hK.out _ _ hSn (fun hHeld2 => ?_)
            clear hK K hHeld hSn; have hHeld := hHeld2; clear hHeld2
            try simp only [Act.put, List.setIfInBounds_toArray, List.set_cons_zero, List.set_cons_succ]
            refine wpAnyLast_ready (rs := [9]) (by kernel_rfl) (by simp) ?_
            refine AllReadyL.cons (o := { dst := some 37, op := Go.Op.call { callee := Go.Callee.builtin Go.Builtin.append, args := #[Go.Operand.tmp 34, Go.Operand.tmp 36], argTypes := #[30, 30] }, type := 30, pos := "crierref15.go:390", after := #[{ on := 6, ground := Go.Ground.data }, { on := 8, ground := Go.Ground.data }, { on := 5, ground := Go.Ground.chain }], guard := none }) rfl (by decide) (fun K hK => ?_) AllReadyL.nil
            refine app_nil_event (Kd.int .i64) (by rfl) (.tmp 34) (.tmp 36) 30 rfl 3 (.int .i64 0) 8 Try.underlying30 info3 rfl (by decide) (by decide) rfl (fun _ _ _ _ h => h) XA5 x.f3.length xc5 rfl x.f3 (came_now (Kd.heap_int .i64) (below_step HBw.out hHeld) (Nat.le_refl _) HEX5.out) (by omega) (fun v17 w17_ ho hb => ?_)
            obtain ⟨IA, ic, e_, hic, hf_⟩ := firm_own (L := Lw2) ho (fun _ _ _ _ h => h); subst e_
            have hO := on_new (L := Lw2) 0 hb; have s3 := s3_below hb
            have hSn := below_step hHeld hb
            have n0_ := Aside0.mk (HBs.out.step hO (fun h => h) s3); have n1_ := Aside0.mk (HB1.out.step hO (fun h => h)); have n2_ := Aside0.mk (HB2.out.step hO (fun h => h)); have n3_ := Aside0.mk (HB3.out.step hO (fun h => h)); have n4_ := Aside0.mk (HV1.out.step hO (fun h => h) (fun h => h)); have n5_ := Aside0.mk (HB5.out.step hO (fun h => h)); have n6_ := Aside0.mk (FSA.out.only hO (fun h => h)); have n7_ := Aside0.mk (HB8.out.step hO (fun h => h)); have n8_ := Aside0.mk hf_; generalize lab1 Lw2 _ 0 = Lw3 at n0_ n1_ n2_ n3_ n4_ n5_ n6_ n7_ n8_; clear hO s3 HBs HB1 HB2 HB3 HV1 HB5 FSA HB8; have HBs := n0_; have HB1 := n1_; have HB2 := n2_; have HB3 := n3_; have HV1 := n4_; have HB5 := n5_; have FSA := n6_; have HB8 := n7_; have FIA := n8_; clear n0_ n1_ n2_ n3_ n4_ n5_ n6_ n7_ n8_
            try clear hg hbox
            try clear ho hf_
            clear hb
            refine hK.out _ _ hSn (fun hHeld2 => ?_)
            clear hK K hHeld hSn; have hHeld := hHeld2; clear hHeld2
            try simp only [Act.put, List.setIfInBounds_toArray, List.set_cons_zero, List.set_cons_succ]
            refine wpAnyLast_take (i := 10) (oi := { dst := some 38, op := Go.Op.build 64 #[(0, Go.Operand.tmp 29), (1, Go.Operand.tmp 33), (3, Go.Operand.tmp 37)], type := 64, pos := "crierref15.go:390", after := #[{ on := 1, ground := Go.Ground.data }, { on := 5, ground := Go.Ground.data }, { on := 9, ground := Go.Ground.data }], guard := none }) (v := ?v18) rfl (by kernel_rfl) (by kernel_rfl) (by kernel_rfl) (by kernel_rfl) (by kernel_rfl) (fun _ _ _ h => h) (Or.inl ⟨by rfl, ?hy18⟩) hHeld ?rest18
            case hy18 => (intro w_ hSw; (try dsimp only at hSw); (try go_simp); (try with_reducible rfl))
            try simp only [Act.put, List.setIfInBounds_toArray, List.set_cons_zero, List.set_cons_succ]
            refine wpAnyLast_ready (rs := [12]) (by kernel_rfl) (by simp) ?_
            refine AllReadyL.cons (o := { dst := none, op := Go.Op.store 64 (Go.Operand.tmp 8) (Go.Operand.tmp 38), type := 0, pos := "crierref15.go:390", after := #[{ on := 11, ground := Go.Ground.data }, { on := 10, ground := Go.Ground.data }, { on := 9, ground := Go.Ground.chain }, { on := 0, ground := Go.Ground.phase }, { on := 1, ground := Go.Ground.phase }, { on := 2, ground := Go.Ground.phase }, { on := 3, ground := Go.Ground.phase }, { on := 4, ground := Go.Ground.phase }, { on := 5, ground := Go.Ground.phase }, { on := 6, ground := Go.Ground.phase }, { on := 7, ground := Go.Ground.phase }, { on := 8, ground := Go.Ground.phase }, { on := 9, ground := Go.Ground.phase }, { on := 10, ground := Go.Ground.phase }, { on := 11, ground := Go.Ground.phase }], guard := none }) rfl (by decide) (fun K hK => ?_) AllReadyL.nil
            refine st_event (by rfl) rfl 64 (.tmp 8) (.tmp 38) rfl g8 0 rfl 64 _ _ HB8.out.blk rfl (by kernel_rfl) (Nat.le_of_ble_eq_true rfl) rfl (fun w19_ hx hk => ?_)
            have hSn := hk.below hHeld (by have h1 := HB8.out.lab; exact G8.out)
            have hO := on_one hk HB8.out.lab; have s3 := s3_one hk
            have n0_ := Aside0.mk (HBs.out.step hO (fun h => by cases h) s3); have n1_ := Aside0.mk (HB1.out.step hO (fun h => by cases h)); have n2_ := Aside0.mk (HB2.out.step hO (fun h => by cases h)); have n3_ := Aside0.mk (HB3.out.step hO (fun h => by cases h)); have n4_ := Aside0.mk (HV1.out.step hO (fun h => by cases h) (fun h => by cases h)); have n5_ := Aside0.mk (HB5.out.step hO (fun h => by cases h)); have n6_ := Aside0.mk (FSA.out.only hO (fun h => by cases h)); have n7_ := Aside0.mk (FIA.out.only hO (fun h => by cases h)); have n8_ := Aside0.mk (HB8.out.set (show w19_.heap[g8]? = some (.cells #[.string x.f0, .slice SA x.f1.length sc, .int .i64 0, .slice none 0 0, .slice none 0 0, .slice IA x.f3.length ic] 64 (0, 0)) from hx)); clear hO s3 HBs HB1 HB2 HB3 HV1 HB5 FSA FIA HB8; have HBs := n0_; have HB1 := n1_; have HB2 := n2_; have HB3 := n3_; have HV1 := n4_; have HB5 := n5_; have FSA := n6_; have FIA := n7_; have HB8 := n8_; clear n0_ n1_ n2_ n3_ n4_ n5_ n6_ n7_ n8_
            clear hx hk
            obtain ⟨Lw4, hLw⟩ : ∃ z, z = Lw3 := ⟨_, rfl⟩; rw [← hLw] at HBs HB1 HB2 HB3 HV1 HB5 FSA FIA HB8; clear hLw
            refine hK.out _ _ hSn (fun hHeld2 => ?_)
            clear hK K hHeld hSn; have hHeld := hHeld2; clear hHeld2
            try simp only [Act.put, List.setIfInBounds_toArray, List.set_cons_zero, List.set_cons_succ]
            refine wpAnyLast_done (by kernel_rfl) ?_ _
            refine NoPanic.normal ?_
            try go_wp2
            go_meet
            case rel => exact ⟨g8, Lw4, SA, sc, IA, ic, rfl, ⟨hsc⟩, ⟨hic⟩, HBs, HB1, HB2, HB3, HV1, HB5, HB8, FSA, FIA⟩
        case w11_9 =>
          refine al_event (cs := #[.string ⟨#[]⟩, .slice none 0 0, .int .i64 0, .slice none 0 0, .slice none 0 0, .slice none 0 0]) (t := 64) (by rfl) ?hr20 (fun g8 hg w20_ hbox hb => ?_)
          case hr20 => (first | (go_simp; done) | (go_simp; rfl))
          have hO := on_new (L := Lw0) 212 hb; have s3 := s3_below hb
          have hSn := below_step hHeld hb
          have G8 : Aside0 (wq.heap.size ≤ g8) := ⟨by rw [hg]; exact hHeld.size⟩
          have n0_ := Aside0.mk (HBs.out.step hO (fun h => h) s3); have n1_ := Aside0.mk (HB1.out.step hO (fun h => h)); have n2_ := Aside0.mk (HB2.out.step hO (fun h => h)); have n3_ := Aside0.mk (HB3.out.step hO (fun h => h)); have n4_ := Aside0.mk (HV1.out.step hO (fun h => h) (fun h => h)); have n5_ := Aside0.mk (HB5.out.step hO (fun h => h)); have n6_ := Aside0.mk (Bk.new (L := Lw0) 212 hg hbox); generalize lab1 Lw0 _ 212 = Lw1 at n0_ n1_ n2_ n3_ n4_ n5_ n6_; clear hO s3 HBs HB1 HB2 HB3 HV1 HB5; have HBs := n0_; have HB1 := n1_; have HB2 := n2_; have HB3 := n3_; have HV1 := n4_; have HB5 := n5_; have HB8 := n6_; clear n0_ n1_ n2_ n3_ n4_ n5_ n6_
          try clear hg hbox
          try clear ho hf_
          clear hb
          refine hK.out _ _ hSn (fun hHeld2 => ?_)
          clear hK K hHeld hSn; have hHeld := hHeld2; clear hHeld2
          try simp only [Act.put, List.setIfInBounds_toArray, List.set_cons_zero, List.set_cons_succ]
          refine wpAnyLast_ready (rs := [5]) (by kernel_rfl) (by simp) ?_
          refine AllReadyL.cons (o := { dst := some 33, op := Go.Op.call { callee := Go.Callee.builtin Go.Builtin.append, args := #[Go.Operand.tmp 30, Go.Operand.tmp 32], argTypes := #[59, 59] }, type := 59, pos := "crierref15.go:390", after := #[{ on := 2, ground := Go.Ground.data }, { on := 4, ground := Go.Ground.data }], guard := none }) rfl (by decide) (fun K hK => ?_) AllReadyL.nil
          refine app_nil_event k90 (by rfl) (.tmp 30) (.tmp 32) 59 rfl 90 (.agg #[(.string ⟨#[]⟩), (.int .i64 0)]) 24 Try.underlying59 info90 rfl (by decide) (by decide) rfl (fun _ _ _ _ h => h) XA1 x.f1.length xc1 rfl x.f1 (came_now hp90 (below_step HBw.out hHeld) (Nat.le_refl _) HEX1.out) (by omega) (fun v21 w21_ ho hb => ?_)
          obtain ⟨SA, sc, e_, hsc, hf_⟩ := firm_own (L := Lw1) ho (fun _ _ _ _ h => h); subst e_
          have hO := on_new (L := Lw1) 0 hb; have s3 := s3_below hb
          have hSn := below_step hHeld hb
          have n0_ := Aside0.mk (HBs.out.step hO (fun h => h) s3); have n1_ := Aside0.mk (HB1.out.step hO (fun h => h)); have n2_ := Aside0.mk (HB2.out.step hO (fun h => h)); have n3_ := Aside0.mk (HB3.out.step hO (fun h => h)); have n4_ := Aside0.mk (HV1.out.step hO (fun h => h) (fun h => h)); have n5_ := Aside0.mk (HB5.out.step hO (fun h => h)); have n6_ := Aside0.mk (HB8.out.step hO (fun h => h)); have n7_ := Aside0.mk hf_; generalize lab1 Lw1 _ 0 = Lw2 at n0_ n1_ n2_ n3_ n4_ n5_ n6_ n7_; clear hO s3 HBs HB1 HB2 HB3 HV1 HB5 HB8; have HBs := n0_; have HB1 := n1_; have HB2 := n2_; have HB3 := n3_; have HV1 := n4_; have HB5 := n5_; have HB8 := n6_; have FSA := n7_; clear n0_ n1_ n2_ n3_ n4_ n5_ n6_ n7_
          try clear hg hbox
          try clear ho hf_
          clear hb
          refine hK.out _ _ hSn (fun hHeld2 => ?_)
          clear hK K hHeld hSn; have hHeld := hHeld2; clear hHeld2
          try simp only [Act.put, List.setIfInBounds_toArray, List.set_cons_zero, List.set_cons_succ]
          refine wpAnyLast_ready (rs := [9]) (by kernel_rfl) (by simp) ?_
          refine AllReadyL.cons (o := { dst := some 37, op := Go.Op.call { callee := Go.Callee.builtin Go.Builtin.append, args := #[Go.Operand.tmp 34, Go.Operand.tmp 36], argTypes := #[30, 30] }, type := 30, pos := "crierref15.go:390", after := #[{ on := 6, ground := Go.Ground.data }, { on := 8, ground := Go.Ground.data }, { on := 5, ground := Go.Ground.chain }], guard := none }) rfl (by decide) (fun K hK => ?_) AllReadyL.nil
          refine app_nil_event (Kd.int .i64) (by rfl) (.tmp 34) (.tmp 36) 30 rfl 3 (.int .i64 0) 8 Try.underlying30 info3 rfl (by decide) (by decide) rfl (fun _ _ _ _ h => h) XA5 x.f3.length xc5 rfl x.f3 (came_now (Kd.heap_int .i64) (below_step HBw.out hHeld) (Nat.le_refl _) HEX5.out) (by omega) (fun v22 w22_ ho hb => ?_)
          obtain ⟨IA, ic, e_, hic, hf_⟩ := firm_own (L := Lw2) ho (fun _ _ _ _ h => h); subst e_
          have hO := on_new (L := Lw2) 0 hb; have s3 := s3_below hb
          have hSn := below_step hHeld hb
          have n0_ := Aside0.mk (HBs.out.step hO (fun h => h) s3); have n1_ := Aside0.mk (HB1.out.step hO (fun h => h)); have n2_ := Aside0.mk (HB2.out.step hO (fun h => h)); have n3_ := Aside0.mk (HB3.out.step hO (fun h => h)); have n4_ := Aside0.mk (HV1.out.step hO (fun h => h) (fun h => h)); have n5_ := Aside0.mk (HB5.out.step hO (fun h => h)); have n6_ := Aside0.mk (FSA.out.only hO (fun h => h)); have n7_ := Aside0.mk (HB8.out.step hO (fun h => h)); have n8_ := Aside0.mk hf_; generalize lab1 Lw2 _ 0 = Lw3 at n0_ n1_ n2_ n3_ n4_ n5_ n6_ n7_ n8_; clear hO s3 HBs HB1 HB2 HB3 HV1 HB5 FSA HB8; have HBs := n0_; have HB1 := n1_; have HB2 := n2_; have HB3 := n3_; have HV1 := n4_; have HB5 := n5_; have FSA := n6_; have HB8 := n7_; have FIA := n8_; clear n0_ n1_ n2_ n3_ n4_ n5_ n6_ n7_ n8_
          try clear hg hbox
          try clear ho hf_
          clear hb
          refine hK.out _ _ hSn (fun hHeld2 => ?_)
          clear hK K hHeld hSn; have hHeld := hHeld2; clear hHeld2
          try simp only [Act.put, List.setIfInBounds_toArray, List.set_cons_zero, List.set_cons_succ]
          refine wpAnyLast_take (i := 10) (oi := { dst := some 38, op := Go.Op.build 64 #[(0, Go.Operand.tmp 29), (1, Go.Operand.tmp 33), (3, Go.Operand.tmp 37)], type := 64, pos := "crierref15.go:390", after := #[{ on := 1, ground := Go.Ground.data }, { on := 5, ground := Go.Ground.data }, { on := 9, ground := Go.Ground.data }], guard := none }) (v := ?v23) rfl (by kernel_rfl) (by kernel_rfl) (by kernel_rfl) (by kernel_rfl) (by kernel_rfl) (fun _ _ _ h => h) (Or.inl ⟨by rfl, ?hy23⟩) hHeld ?rest23
          case hy23 => (intro w_ hSw; (try dsimp only at hSw); (try go_simp); (try with_reducible rfl))
          try simp only [Act.put, List.setIfInBounds_toArray, List.set_cons_zero, List.set_cons_succ]
          refine wpAnyLast_ready (rs := [12]) (by kernel_rfl) (by simp) ?_
          refine AllReadyL.cons (o := { dst := none, op := Go.Op.store 64 (Go.Operand.tmp 8) (Go.Operand.tmp 38), type := 0, pos := "crierref15.go:390", after := #[{ on := 11, ground := Go.Ground.data }, { on := 10, ground := Go.Ground.data }, { on := 9, ground := Go.Ground.chain }, { on := 0, ground := Go.Ground.phase }, { on := 1, ground := Go.Ground.phase }, { on := 2, ground := Go.Ground.phase }, { on := 3, ground := Go.Ground.phase }, { on := 4, ground := Go.Ground.phase }, { on := 5, ground := Go.Ground.phase }, { on := 6, ground := Go.Ground.phase }, { on := 7, ground := Go.Ground.phase }, { on := 8, ground := Go.Ground.phase }, { on := 9, ground := Go.Ground.phase }, { on := 10, ground := Go.Ground.phase }, { on := 11, ground := Go.Ground.phase }], guard := none }) rfl (by decide) (fun K hK => ?_) AllReadyL.nil
          refine st_event (by rfl) rfl 64 (.tmp 8) (.tmp 38) rfl g8 0 rfl 64 _ _ HB8.out.blk rfl (by kernel_rfl) (Nat.le_of_ble_eq_true rfl) rfl (fun w24_ hx hk => ?_)
          have hSn := hk.below hHeld (by have h1 := HB8.out.lab; exact G8.out)
          have hO := on_one hk HB8.out.lab; have s3 := s3_one hk
          have n0_ := Aside0.mk (HBs.out.step hO (fun h => by cases h) s3); have n1_ := Aside0.mk (HB1.out.step hO (fun h => by cases h)); have n2_ := Aside0.mk (HB2.out.step hO (fun h => by cases h)); have n3_ := Aside0.mk (HB3.out.step hO (fun h => by cases h)); have n4_ := Aside0.mk (HV1.out.step hO (fun h => by cases h) (fun h => by cases h)); have n5_ := Aside0.mk (HB5.out.step hO (fun h => by cases h)); have n6_ := Aside0.mk (FSA.out.only hO (fun h => by cases h)); have n7_ := Aside0.mk (FIA.out.only hO (fun h => by cases h)); have n8_ := Aside0.mk (HB8.out.set (show w24_.heap[g8]? = some (.cells #[.string x.f0, .slice SA x.f1.length sc, .int .i64 0, .slice none 0 0, .slice none 0 0, .slice IA x.f3.length ic] 64 (0, 0)) from hx)); clear hO s3 HBs HB1 HB2 HB3 HV1 HB5 FSA FIA HB8; have HBs := n0_; have HB1 := n1_; have HB2 := n2_; have HB3 := n3_; have HV1 := n4_; have HB5 := n5_; have FSA := n6_; have FIA := n7_; have HB8 := n8_; clear n0_ n1_ n2_ n3_ n4_ n5_ n6_ n7_ n8_
          clear hx hk
          obtain ⟨Lw4, hLw⟩ : ∃ z, z = Lw3 := ⟨_, rfl⟩; rw [← hLw] at HBs HB1 HB2 HB3 HV1 HB5 FSA FIA HB8; clear hLw
          refine hK.out _ _ hSn (fun hHeld2 => ?_)
          clear hK K hHeld hSn; have hHeld := hHeld2; clear hHeld2
          try simp only [Act.put, List.setIfInBounds_toArray, List.set_cons_zero, List.set_cons_succ]
          refine wpAnyLast_done (by kernel_rfl) ?_ _
          refine NoPanic.normal ?_
          try go_wp2
          go_meet
          case rel => exact ⟨g8, Lw4, SA, sc, IA, ic, rfl, ⟨hsc⟩, ⟨hic⟩, HBs, HB1, HB2, HB3, HV1, HB5, HB8, FSA, FIA⟩
      case rest =>
        obtain ⟨g8, L0b, SA, sc, IA, ic, hv8, HSC, HIC, HBs, HB1, HB2, HB3, HV1, HB5, HB8, FSA, FIA⟩ := hcut; subst hv8
        obtain ⟨wk_, hwk⟩ : ∃ z, z = wc := ⟨_, rfl⟩; subst hwk
        go_wp2_with (first | ((with_reducible refine gate_dst (N := 41) rfl ?_); (refine val_list rfl (v := .int .i64 x.f2.f0) ?hr ?_; (case hr => (have hc_ := (blk_cell HB5.out.blk 2).trans rfl; go_simp; try rfl)))) | ((with_reducible refine gate_st (y := .tmp 41) rfl ?_); (refine st1_list rfl rfl g8 2 (.int .i64 x.f2.f0) 64 _ HB8.out.blk ?hr ?_; (case hr => (have hc_ := (blk_cell HB8.out.blk 2).trans rfl; have hf_ := blk_frozen HB8.out.blk 2; go_simp; try rfl)); intro w20_ hx hk; have hO := on_one hk HB8.out.lab; have s3 := s3_one hk; have n0_ := Aside0.mk (HBs.out.step hO (fun h => by cases h) s3); have n1_ := Aside0.mk (HB1.out.step hO (fun h => by cases h)); have n2_ := Aside0.mk (HB2.out.step hO (fun h => by cases h)); have n3_ := Aside0.mk (HB3.out.step hO (fun h => by cases h)); have n4_ := Aside0.mk (HV1.out.step hO (fun h => by cases h) (fun h => by cases h)); have n5_ := Aside0.mk (HB5.out.step hO (fun h => by cases h)); have n6_ := Aside0.mk (HB8.out.set (show w20_.heap[g8]? = some (.cells #[.string x.f0, .slice SA x.f1.length sc, .int .i64 x.f2.f0, .slice none 0 0, .slice none 0 0, .slice IA x.f3.length ic] 64 (0, 0)) from hx)); have n7_ := Aside0.mk (FSA.out.only hO (fun h => by cases h)); have n8_ := Aside0.mk (FIA.out.only hO (fun h => by cases h)); clear hO s3 HBs HB1 HB2 HB3 HV1 HB5 HB8 FSA FIA; have HBs := n0_; have HB1 := n1_; have HB2 := n2_; have HB3 := n3_; have HV1 := n4_; have HB5 := n5_; have HB8 := n6_; have FSA := n7_; have FIA := n8_; clear n0_ n1_ n2_ n3_ n4_ n5_ n6_ n7_ n8_; clear hx hk)))
        have HV3 : Aside0 (Ow k76 76 w.heap.size (.slice none 0 0) [] 203 L0b w20_) := ⟨Ow.nil _ _ _ _ _ _⟩
        go_loopw [9] (fun i wr => ∃ (k2 : Nat) (Lk_ : Nat → Nat) (V3 : Value), k2 ≤ x.f2.f1.length ∧ i = .int .i64 k2 ∧ Aside0 (Bs w Lk_ wr) ∧ Aside0 (Bk g1 #[.int .i64 au, .slice (some adX) ls.length c1, .slice A2 lr.length c2, .slice A3 lg.length c3] 26 210 Lk_ wr) ∧ Aside0 (Bk g2 #[.int .i64 0, .slice none 0 0, .slice none 0 0, .slice none 0 0] 26 214 Lk_ wr) ∧ Aside0 (Bk g3 #[.int .i64 au, V1, .slice none 0 0, .slice none 0 0] 26 211 Lk_ wr) ∧ Aside0 (Ow k64 64 w.heap.size V1 (ls.take k) 201 Lk_ wr) ∧ Aside0 (Bk g5 #[.string x.f0, .slice XA1 x.f1.length xc1, .int .i64 x.f2.f0, .slice XA3 x.f2.f1.length xc3, .slice XA4 x.f2.f2.length xc4, .slice XA5 x.f3.length xc5] 64 215 Lk_ wr) ∧ Aside0 (Bk g8 #[.string x.f0, .slice SA x.f1.length sc, .int .i64 x.f2.f0, V3, .slice none 0 0, .slice IA x.f3.length ic] 64 212 Lk_ wr) ∧ Aside0 (Firm Lk_ wr (fun W => k90.C W SA x.f1.length x.f1)) ∧ Aside0 (Firm Lk_ wr (fun W => (Kd.int .i64).C W IA x.f3.length x.f3)) ∧ Aside0 (Ow k76 76 w.heap.size V3 (x.f2.f1.take k2) 203 Lk_ wr)) (fun i _ => x.f2.f1.length - (intOf i).toNat)
        case atStart => exact ⟨0, _, _, Nat.zero_le _, rfl, HBs, HB1, HB2, HB3, HV1, HB5, HB8, FSA, FIA, ⟨by rw [List.take_zero]; exact HV3.out⟩⟩
        case round =>
          clear HBs HB1 HB2 HB3 HV1 HB5 HB8 FSA FIA HV3
          obtain ⟨k2, L0c, V3, hk2, rfl, HBs, HB1, HB2, HB3, HV1, HB5, HB8, FSA, FIA, HV3⟩ := hrel
          obtain ⟨wp, hwp⟩ : ∃ z, z = wr := ⟨_, rfl⟩; subst hwp
          by_cases hlt2 : k2 < x.f2.f1.length
          · skip
            obtain ⟨adY, YA2, yc2, e_, r0, r1, r2, r3, r4, r5, l2_, g2_⟩ := at_T76 HEX3.out (k2 : Int) (by omega) (by omega)
            skip
            obtain ⟨y, hx_⟩ : ∃ z, z = rd_T76 (x.f2.f1) k2 := ⟨_, rfl⟩
            rw [← hx_, Int.toNat_natCast] at r0 r1 r2 r3 r4 r5
            rw [← hx_] at l2_ g2_
            have hx' := at_k hlt2 hx_; have HXY := Aside0.mk hx'; have HMY := Aside0.mk (List.mem_of_getElem? hx'); clear hx_ hx'
            have FY0 := Aside0.mk r0; clear r0
            have FY1 := Aside0.mk r1; clear r1
            have FY2 := Aside0.mk r2; clear r2
            have FY3 := Aside0.mk r3; clear r3
            have FY4 := Aside0.mk r4; clear r4
            have FY5 := Aside0.mk r5; clear r5
            have HLY2 := Aside0.mk l2_; have HEY2 := Aside0.mk g2_; clear l2_ g2_
            subst e_
            have HOY : Aside0 (y.f1.f1.length ≤ 536870912) := ⟨HOK.out.2.1.2 y HMY.out⟩
            go_wp2_with (first | ((with_reducible refine gate_dst (N := 47) rfl ?_); (refine val_list rfl (v := (.slice (some adY) x.f2.f1.length xc3)) ?hr ?_; (case hr => (have hc_ := (blk_cell HB5.out.blk 3).trans rfl; go_simp; try rfl)))) | ((with_reducible refine gate_dst (N := 54) rfl ?_); (refine val_list rfl (v := (.slice (some adY) x.f2.f1.length xc3)) ?hr ?_; (case hr => (have hc_ := (blk_cell HB5.out.blk 3).trans rfl; go_simp; try rfl)))) | ((with_reducible refine gate_dst (N := 57) rfl ?_); (refine val_list rfl (v := (.agg #[.int .i64 y.f0, .string y.f1.f0, .slice YA2 y.f1.f1.length yc2, .int .i64 y.f1.f2, .bool y.f1.f3, .bool y.f2])) ?hr ?_; (case hr => (have FY0_ := pw_cell_below HBs.out.below FY0.out; have FY1_ := pw_cell_below HBs.out.below FY1.out; have FY2_ := pw_cell_below HBs.out.below FY2.out; have FY3_ := pw_cell_below HBs.out.below FY3.out; have FY4_ := pw_cell_below HBs.out.below FY4.out; have FY5_ := pw_cell_below HBs.out.below FY5.out; go_simp; try rfl)))) | ((with_reducible refine gate_dst (N := 10) rfl ?_); (refine box_event ?hg (N := 10) ?hd (cs := #[.int .i64 0, .string ⟨#[]⟩, .slice none 0 0, .int .i64 0, .bool false, .bool false]) (t := 76) ?hr ?_; (case hd => rfl); (case hg => rfl); (case hr => first | (go_simp; done) | (go_simp; rfl)); intro g10 hg w30_ hbox hb; have hO := on_new (L := L0c) 213 hb; have s3 := s3_below hb; have n0_ := Aside0.mk (HBs.out.step hO (fun h => h) s3); have n1_ := Aside0.mk (HB1.out.step hO (fun h => h)); have n2_ := Aside0.mk (HB2.out.step hO (fun h => h)); have n3_ := Aside0.mk (HB3.out.step hO (fun h => h)); have n4_ := Aside0.mk (HV1.out.step hO (fun h => h) (fun h => h)); have n5_ := Aside0.mk (HB5.out.step hO (fun h => h)); have n6_ := Aside0.mk (HB8.out.step hO (fun h => h)); have n7_ := Aside0.mk (FSA.out.only hO (fun h => h)); have n8_ := Aside0.mk (FIA.out.only hO (fun h => h)); have n9_ := Aside0.mk (HV3.out.step hO (fun h => h) (fun h => h)); have n10_ := Aside0.mk (Bk.new (L := L0c) 213 hg hbox); generalize lab1 L0c _ 213 = L31 at n0_ n1_ n2_ n3_ n4_ n5_ n6_ n7_ n8_ n9_ n10_; clear hO s3 HBs HB1 HB2 HB3 HV1 HB5 HB8 FSA FIA HV3; have HBs := n0_; have HB1 := n1_; have HB2 := n2_; have HB3 := n3_; have HV1 := n4_; have HB5 := n5_; have HB8 := n6_; have FSA := n7_; have FIA := n8_; have HV3 := n9_; have HB10 := n10_; clear n0_ n1_ n2_ n3_ n4_ n5_ n6_ n7_ n8_ n9_ n10_; clear hg hbox hb)) | ((with_reducible refine gate_st (y := .tmp 57) rfl ?_); (refine ev_store rfl rfl 76 (.tmp 10) (.tmp 57) rfl g10 0 rfl 76 _ _ HB10.out.blk rfl (by kernel_rfl) (Nat.le_of_ble_eq_true rfl) rfl ?_; intro w31_ hx hk; have hO := on_one hk HB10.out.lab; have s3 := s3_one hk; have n0_ := Aside0.mk (HBs.out.step hO (fun h => by cases h) s3); have n1_ := Aside0.mk (HB1.out.step hO (fun h => by cases h)); have n2_ := Aside0.mk (HB2.out.step hO (fun h => by cases h)); have n3_ := Aside0.mk (HB3.out.step hO (fun h => by cases h)); have n4_ := Aside0.mk (HV1.out.step hO (fun h => by cases h) (fun h => by cases h)); have n5_ := Aside0.mk (HB5.out.step hO (fun h => by cases h)); have n6_ := Aside0.mk (HB8.out.step hO (fun h => by cases h)); have n7_ := Aside0.mk (FSA.out.only hO (fun h => by cases h)); have n8_ := Aside0.mk (FIA.out.only hO (fun h => by cases h)); have n9_ := Aside0.mk (HV3.out.step hO (fun h => by cases h) (fun h => by cases h)); have n10_ := Aside0.mk (HB10.out.set (show w31_.heap[g10]? = some (.cells #[.int .i64 y.f0, .string y.f1.f0, .slice YA2 y.f1.f1.length yc2, .int .i64 y.f1.f2, .bool y.f1.f3, .bool y.f2] 76 (0, 0)) from hx)); clear hO s3 HBs HB1 HB2 HB3 HV1 HB5 HB8 FSA FIA HV3 HB10; have HBs := n0_; have HB1 := n1_; have HB2 := n2_; have HB3 := n3_; have HV1 := n4_; have HB5 := n5_; have HB8 := n6_; have FSA := n7_; have FIA := n8_; have HV3 := n9_; have HB10 := n10_; clear n0_ n1_ n2_ n3_ n4_ n5_ n6_ n7_ n8_ n9_ n10_; clear hx hk)) | ((with_reducible refine gate_dst (N := 59) rfl ?_); (refine ev_load rfl 72 (.tmp 58) rfl g10 1 4 rfl 76 (0, 0) _ HB10.out.blk _ HuM.out rfl ([.string y.f1.f0, .slice YA2 y.f1.f1.length yc2, .int .i64 y.f1.f2, .bool y.f1.f3]) rfl (by kernel_rfl) ?_)) | (go_at_call 23; (refine (own_calls y.f1 YA2 yc2 _ (came_now (Kd.heap_int .u8) HBs.out.below (Nat.le_refl _) HEY2.out) HLY2.out HOY.out).mono ?_; rintro e w32_ ⟨PB, pd, rfl, hd_, hf_, hb⟩; have HPD := Aside0.mk hd_; have hO := on_new (L := L31) 0 hb; have s3 := s3_below hb; have n0_ := Aside0.mk (HBs.out.step hO (fun h => h) s3); have n1_ := Aside0.mk (HB1.out.step hO (fun h => h)); have n2_ := Aside0.mk (HB2.out.step hO (fun h => h)); have n3_ := Aside0.mk (HB3.out.step hO (fun h => h)); have n4_ := Aside0.mk (HV1.out.step hO (fun h => h) (fun h => h)); have n5_ := Aside0.mk (HB5.out.step hO (fun h => h)); have n6_ := Aside0.mk (HB8.out.step hO (fun h => h)); have n7_ := Aside0.mk (FSA.out.only hO (fun h => h)); have n8_ := Aside0.mk (FIA.out.only hO (fun h => h)); have n9_ := Aside0.mk (HV3.out.step hO (fun h => h) (fun h => h)); have n10_ := Aside0.mk (HB10.out.step hO (fun h => h)); have n11_ := Aside0.mk (hf_ L31); generalize lab1 L31 _ 0 = L32 at n0_ n1_ n2_ n3_ n4_ n5_ n6_ n7_ n8_ n9_ n10_ n11_; clear hO s3 HBs HB1 HB2 HB3 HV1 HB5 HB8 FSA FIA HV3 HB10; have HBs := n0_; have HB1 := n1_; have HB2 := n2_; have HB3 := n3_; have HV1 := n4_; have HB5 := n5_; have HB8 := n6_; have FSA := n7_; have FIA := n8_; have HV3 := n9_; have HB10 := n10_; have FP := n11_; clear n0_ n1_ n2_ n3_ n4_ n5_ n6_ n7_ n8_ n9_ n10_ n11_; clear hf_ hd_ hb)) | ((with_reducible refine gate_st (y := .tmp 60) rfl ?_); (refine ev_store rfl rfl 72 (.tmp 61) (.tmp 60) rfl g10 1 rfl 76 _ _ HB10.out.blk rfl (by kernel_rfl) (Nat.le_of_ble_eq_true rfl) rfl ?_; intro w33_ hx hk; have hO := on_one hk HB10.out.lab; have s3 := s3_one hk; have n0_ := Aside0.mk (HBs.out.step hO (fun h => by cases h) s3); have n1_ := Aside0.mk (HB1.out.step hO (fun h => by cases h)); have n2_ := Aside0.mk (HB2.out.step hO (fun h => by cases h)); have n3_ := Aside0.mk (HB3.out.step hO (fun h => by cases h)); have n4_ := Aside0.mk (HV1.out.step hO (fun h => by cases h) (fun h => by cases h)); have n5_ := Aside0.mk (HB5.out.step hO (fun h => by cases h)); have n6_ := Aside0.mk (HB8.out.step hO (fun h => by cases h)); have n7_ := Aside0.mk (FSA.out.only hO (fun h => by cases h)); have n8_ := Aside0.mk (FIA.out.only hO (fun h => by cases h)); have n9_ := Aside0.mk (HV3.out.step hO (fun h => by cases h) (fun h => by cases h)); have n10_ := Aside0.mk (HB10.out.set (show w33_.heap[g10]? = some (.cells #[.int .i64 y.f0, .string y.f1.f0, .slice PB y.f1.f1.length pd, .int .i64 y.f1.f2, .bool y.f1.f3, .bool y.f2] 76 (0, 0)) from hx)); have n11_ := Aside0.mk (FP.out.only hO (fun h => by cases h)); clear hO s3 HBs HB1 HB2 HB3 HV1 HB5 HB8 FSA FIA HV3 HB10 FP; have HBs := n0_; have HB1 := n1_; have HB2 := n2_; have HB3 := n3_; have HV1 := n4_; have HB5 := n5_; have HB8 := n6_; have FSA := n7_; have FIA := n8_; have HV3 := n9_; have HB10 := n10_; have FP := n11_; clear n0_ n1_ n2_ n3_ n4_ n5_ n6_ n7_ n8_ n9_ n10_ n11_; clear hx hk)) | ((with_reducible refine gate_dst (N := 64) rfl ?_); (refine val_list rfl (v := V3) ?hr ?_; (case hr => (have hc_ := (blk_cell HB8.out.blk 3).trans rfl; go_simp; try rfl)))) | ((with_reducible refine gate_dst (N := 65) rfl ?_); (refine ev_load rfl 76 (.tmp 10) rfl g10 0 6 rfl 76 (0, 0) _ HB10.out.blk _ HuF.out rfl ([.int .i64 y.f0, .string y.f1.f0, .slice PB y.f1.f1.length pd, .int .i64 y.f1.f2, .bool y.f1.f3, .bool y.f2]) rfl (by kernel_rfl) ?_)) | ((with_reducible refine gate_builtin (b := .append) (xs := #[.tmp 64, .tmp 66]) rfl ?_); at_builtin; (refine OwnRow.append (w0 := w) (R := fun p c => Firm L32 w33_ (fun W' => k76.K W' p c)) w.heap.size rfl (.tmp 64) (.tmp 66) 60 76 (.agg #[(.int .i64 0), (.string ⟨#[]⟩), (.slice none 0 0), (.int .i64 0), (.bool false), (.bool false)]) 6 72 rfl Try.underlying60 info76 rfl (by decide) (by decide) V3 (x.f2.f1.take k2) y [.int .i64 y.f0, .string y.f1.f0, .slice PB y.f1.f1.length pd, .int .i64 y.f1.f2, .bool y.f1.f3, .bool y.f2] rfl rfl ?aP rfl ?a1 ?aO ?aB ?aS ?aL ?_; (case aP => exact FP.out.imp (fun W h => k76_mk W y HPD.out h)); (case a1 => simp [Value.oneCell']); (case aO => exact HV3.out.own); (case aB => exact HBs.out.below); (case aS => exact HBs.out.below.size); (case aL => (have : (x.f2.f1.take k2).length ≤ k2 := List.length_take_le _ _; omega)); intro v1 w34_ ho hb hg hat; obtain ⟨Az, cz, ez, _⟩ := ho.slice_; generalize (x.f2.f1.take k2 ++ [y]).length = nz at ez; subst ez; have hO := on_grown HV3.out hg; have s3 := s3_grown hg; have n0_ := Aside0.mk (HBs.out.step hO (fun h => by cases h) s3); have n1_ := Aside0.mk (HB1.out.step hO (fun h => by cases h)); have n2_ := Aside0.mk (HB2.out.step hO (fun h => by cases h)); have n3_ := Aside0.mk (HB3.out.step hO (fun h => by cases h)); have n4_ := Aside0.mk (HV1.out.step hO (fun h => by cases h) (fun h => by cases h)); have n5_ := Aside0.mk (HB5.out.step hO (fun h => by cases h)); have n6_ := Aside0.mk (HB8.out.step hO (fun h => by cases h)); have n7_ := Aside0.mk (FSA.out.only hO (fun h => by cases h)); have n8_ := Aside0.mk (FIA.out.only hO (fun h => by cases h)); have n9_ := Aside0.mk (HV3.out.app (by decide) ho hg hat); have n10_ := Aside0.mk (HB10.out.step hO (fun h => by cases h)); have n11_ := Aside0.mk (FP.out.only hO (fun h => by cases h)); generalize lab1 L32 _ 203 = L33 at n0_ n1_ n2_ n3_ n4_ n5_ n6_ n7_ n8_ n9_ n10_ n11_; clear hO s3 HBs HB1 HB2 HB3 HV1 HB5 HB8 FSA FIA HV3 HB10 FP; have HBs := n0_; have HB1 := n1_; have HB2 := n2_; have HB3 := n3_; have HV1 := n4_; have HB5 := n5_; have HB8 := n6_; have FSA := n7_; have FIA := n8_; have HV3 := n9_; have HB10 := n10_; have FP := n11_; clear n0_ n1_ n2_ n3_ n4_ n5_ n6_ n7_ n8_ n9_ n10_ n11_; clear ho hb hg hat)) | ((with_reducible refine gate_st (y := .tmp 67) rfl ?_); (refine st1_list rfl rfl g8 3 (.slice Az nz cz) 64 _ HB8.out.blk ?hr ?_; (case hr => (have hc_ := (blk_cell HB8.out.blk 3).trans rfl; have hf_ := blk_frozen HB8.out.blk 3; go_simp; try rfl)); intro w35_ hx hk; have hO := on_one hk HB8.out.lab; have s3 := s3_one hk; have n0_ := Aside0.mk (HBs.out.step hO (fun h => by cases h) s3); have n1_ := Aside0.mk (HB1.out.step hO (fun h => by cases h)); have n2_ := Aside0.mk (HB2.out.step hO (fun h => by cases h)); have n3_ := Aside0.mk (HB3.out.step hO (fun h => by cases h)); have n4_ := Aside0.mk (HV1.out.step hO (fun h => by cases h) (fun h => by cases h)); have n5_ := Aside0.mk (HB5.out.step hO (fun h => by cases h)); have n6_ := Aside0.mk (HB8.out.set (show w35_.heap[g8]? = some (.cells #[.string x.f0, .slice SA x.f1.length sc, .int .i64 x.f2.f0, .slice Az nz cz, .slice none 0 0, .slice IA x.f3.length ic] 64 (0, 0)) from hx)); have n7_ := Aside0.mk (FSA.out.only hO (fun h => by cases h)); have n8_ := Aside0.mk (FIA.out.only hO (fun h => by cases h)); have n9_ := Aside0.mk (HV3.out.step hO (fun h => by cases h) (fun h => by cases h)); have n10_ := Aside0.mk (HB10.out.step hO (fun h => by cases h)); have n11_ := Aside0.mk (FP.out.only hO (fun h => by cases h)); clear hO s3 HBs HB1 HB2 HB3 HV1 HB5 HB8 FSA FIA HV3 HB10 FP; have HBs := n0_; have HB1 := n1_; have HB2 := n2_; have HB3 := n3_; have HV1 := n4_; have HB5 := n5_; have HB8 := n6_; have FSA := n7_; have FIA := n8_; have HV3 := n9_; have HB10 := n10_; have FP := n11_; clear n0_ n1_ n2_ n3_ n4_ n5_ n6_ n7_ n8_ n9_ n10_ n11_; clear hx hk)))
            go_roundw
            case rel => exact ⟨k2 + 1, _, _, by omega, by go_num, HBs, HB1, HB2, HB3, HV1, HB5, HB8, FSA, FIA, ⟨by rw [List.take_add_one, HXY.out]; exact HV3.out⟩⟩
            case measure => simp [intOf]; omega
          · obtain rfl : k2 = x.f2.f1.length := by omega
            rw [List.take_length] at HV3
            clear hlt2 hk2
            go_wp2_with (first | ((with_reducible refine gate_dst (N := 47) rfl ?_); (refine val_list rfl (v := (.slice XA3 x.f2.f1.length xc3)) ?hr ?_; (case hr => (have hc_ := (blk_cell HB5.out.blk 3).trans rfl; go_simp; try rfl)))))
            have HV4 : Aside0 (Ow k72 72 w.heap.size (.slice none 0 0) [] 204 L0c wp) := ⟨Ow.nil _ _ _ _ _ _⟩
            go_loopw [11] (fun i wr => ∃ (k3 : Nat) (Lk_ : Nat → Nat) (V4 : Value), k3 ≤ x.f2.f2.length ∧ i = .int .i64 k3 ∧ Aside0 (Bs w Lk_ wr) ∧ Aside0 (Bk g1 #[.int .i64 au, .slice (some adX) ls.length c1, .slice A2 lr.length c2, .slice A3 lg.length c3] 26 210 Lk_ wr) ∧ Aside0 (Bk g2 #[.int .i64 0, .slice none 0 0, .slice none 0 0, .slice none 0 0] 26 214 Lk_ wr) ∧ Aside0 (Bk g3 #[.int .i64 au, V1, .slice none 0 0, .slice none 0 0] 26 211 Lk_ wr) ∧ Aside0 (Ow k64 64 w.heap.size V1 (ls.take k) 201 Lk_ wr) ∧ Aside0 (Bk g5 #[.string x.f0, .slice XA1 x.f1.length xc1, .int .i64 x.f2.f0, .slice XA3 x.f2.f1.length xc3, .slice XA4 x.f2.f2.length xc4, .slice XA5 x.f3.length xc5] 64 215 Lk_ wr) ∧ Aside0 (Bk g8 #[.string x.f0, .slice SA x.f1.length sc, .int .i64 x.f2.f0, V3, V4, .slice IA x.f3.length ic] 64 212 Lk_ wr) ∧ Aside0 (Firm Lk_ wr (fun W => k90.C W SA x.f1.length x.f1)) ∧ Aside0 (Firm Lk_ wr (fun W => (Kd.int .i64).C W IA x.f3.length x.f3)) ∧ Aside0 (Ow k76 76 w.heap.size V3 x.f2.f1 203 Lk_ wr) ∧ Aside0 (Ow k72 72 w.heap.size V4 (x.f2.f2.take k3) 204 Lk_ wr)) (fun i _ => x.f2.f2.length - (intOf i).toNat)
            case atStart => exact ⟨0, _, _, Nat.zero_le _, rfl, HBs, HB1, HB2, HB3, HV1, HB5, HB8, FSA, FIA, HV3, ⟨by rw [List.take_zero]; exact HV4.out⟩⟩
            case round =>
              clear HBs HB1 HB2 HB3 HV1 HB5 HB8 FSA FIA HV3 HV4
              obtain ⟨k3, L0d, V4, hk3, rfl, HBs, HB1, HB2, HB3, HV1, HB5, HB8, FSA, FIA, HV3, HV4⟩ := hrel
              obtain ⟨wn, hwn⟩ : ∃ z, z = wr := ⟨_, rfl⟩; subst hwn
              by_cases hlt3 : k3 < x.f2.f2.length
              · skip
                obtain ⟨adZ, ZA1, zc1, e_, r0, r1, r2, r3, l1_, g1_⟩ := at_T72 HEX4.out (k3 : Int) (by omega) (by omega)
                skip
                obtain ⟨z, hx_⟩ : ∃ z, z = rd_T72 (x.f2.f2) k3 := ⟨_, rfl⟩
                rw [← hx_, Int.toNat_natCast] at r0 r1 r2 r3
                rw [← hx_] at l1_ g1_
                have hx' := at_k hlt3 hx_; have HXZ := Aside0.mk hx'; have HMZ := Aside0.mk (List.mem_of_getElem? hx'); clear hx_ hx'
                have FZ0 := Aside0.mk r0; clear r0
                have FZ1 := Aside0.mk r1; clear r1
                have FZ2 := Aside0.mk r2; clear r2
                have FZ3 := Aside0.mk r3; clear r3
                have HLZ1 := Aside0.mk l1_; have HEZ1 := Aside0.mk g1_; clear l1_ g1_
                subst e_
                have HOZ : Aside0 (z.f1.length ≤ 536870912) := ⟨HOK.out.2.2.1.2 z HMZ.out⟩
                go_upto_region 19 with (first | ((with_reducible refine gate_dst (N := 73) rfl ?_); (refine val_list rfl (v := (.slice (some adZ) x.f2.f2.length xc4)) ?hr ?_; (case hr => (have hc_ := (blk_cell HB5.out.blk 4).trans rfl; go_simp; try rfl)))))
                refine wp_region_noPanic ?_
                refine wp_region_last_drew (S := fun W => S2 w g5 #[.string x.f0, .slice XA1 x.f1.length xc1, .int .i64 x.f2.f0, .slice XA3 x.f2.f1.length xc3, .slice (some adZ) x.f2.f2.length xc4, .slice XA5 x.f3.length xc5] 64 g8 #[.string x.f0, .slice SA x.f1.length sc, .int .i64 x.f2.f0, V3, V4, .slice IA x.f3.length ic] 64 W) (ds := [14]) (by kernel_rfl) ?hS0 (fun hHeld => ?_)
                case hS0 => exact ⟨HBs.out.below.drew, HB5.out.blk, HB8.out.blk⟩
                have hO := only_drew (X := No) (L := L0d) (w := wn); have s3 := s3_drew (w := wn); have n0_ := Aside0.mk (HBs.out.step hO (fun h => h) s3); have n1_ := Aside0.mk (HB1.out.step hO (fun h => h)); have n2_ := Aside0.mk (HB2.out.step hO (fun h => h)); have n3_ := Aside0.mk (HB3.out.step hO (fun h => h)); have n4_ := Aside0.mk (HV1.out.step hO (fun h => h) (fun h => h)); have n5_ := Aside0.mk (HB5.out.step hO (fun h => h)); have n6_ := Aside0.mk (HB8.out.step hO (fun h => h)); have n7_ := Aside0.mk (FSA.out.only hO (fun h => h)); have n8_ := Aside0.mk (FIA.out.only hO (fun h => h)); have n9_ := Aside0.mk (HV3.out.step hO (fun h => h) (fun h => h)); have n10_ := Aside0.mk (HV4.out.step hO (fun h => h) (fun h => h)); clear hO s3 HBs HB1 HB2 HB3 HV1 HB5 HB8 FSA FIA HV3 HV4; have HBs := n0_; have HB1 := n1_; have HB2 := n2_; have HB3 := n3_; have HV1 := n4_; have HB5 := n5_; have HB8 := n6_; have FSA := n7_; have FIA := n8_; have HV3 := n9_; have HV4 := n10_; clear n0_ n1_ n2_ n3_ n4_ n5_ n6_ n7_ n8_ n9_ n10_
                refine wpAnyLast_take (i := 0) (oi := { dst := some 78, op := Go.Op.fieldAddr 64 (Go.Operand.tmp 8) 2, type := 0, pos := "crierref15.go:398", after := #[], guard := none }) (v := ?v25) rfl (by kernel_rfl) (by kernel_rfl) (by kernel_rfl) (by kernel_rfl) (by kernel_rfl) (fun _ _ _ h => h) (Or.inl ⟨by rfl, ?hy25⟩) hHeld ?rest25
                case hy25 => (intro w_ hSw; (try dsimp only at hSw); (try go_simp); (try with_reducible rfl))
                try simp only [Act.put, List.setIfInBounds_toArray, List.set_cons_zero, List.set_cons_succ]
                refine wpAnyLast_take (i := 1) (oi := { dst := some 79, op := Go.Op.fieldAddr 62 (Go.Operand.tmp 78) 2, type := 0, pos := "crierref15.go:398", after := #[{ on := 0, ground := Go.Ground.data }], guard := none }) (v := ?v26) rfl (by kernel_rfl) (by kernel_rfl) (by kernel_rfl) (by kernel_rfl) (by kernel_rfl) (fun _ _ _ h => h) (Or.inl ⟨by rfl, ?hy26⟩) hHeld ?rest26
                case hy26 => (intro w_ hSw; (try dsimp only at hSw); (try go_simp); (try with_reducible rfl))
                try simp only [Act.put, List.setIfInBounds_toArray, List.set_cons_zero, List.set_cons_succ]
                refine wpAnyLast_take (i := 2) (oi := { dst := some 80, op := Go.Op.load 23 (Go.Operand.tmp 79), type := 23, pos := "crierref15.go:398", after := #[{ on := 1, ground := Go.Ground.data }], guard := none }) (v := ?v27) rfl (by kernel_rfl) (by kernel_rfl) (by kernel_rfl) (by kernel_rfl) (by kernel_rfl) (fun _ _ _ h => h) (Or.inl ⟨by rfl, ?hy27⟩) hHeld ?rest27
                case hy27 => (intro w_ hSw; (try dsimp only at hSw); have G8__ := (show w_.cell? ⟨g8, 4, none⟩ = some V4 from (blk_cell hSw.b8 4).trans rfl); have G5__ := (show w_.cell? ⟨g5, 4, none⟩ = some (.slice (some adZ) x.f2.f2.length xc4) from (blk_cell hSw.b5 4).trans rfl); have FZ0_ := pw_cell_below hSw.low FZ0.out; have FZ1_ := pw_cell_below hSw.low FZ1.out; have FZ2_ := pw_cell_below hSw.low FZ2.out; have FZ3_ := pw_cell_below hSw.low FZ3.out; (try go_simp); (try with_reducible rfl))
                try simp only [Act.put, List.setIfInBounds_toArray, List.set_cons_zero, List.set_cons_succ]
                refine wpAnyLast_take (i := 3) (oi := { dst := some 81, op := Go.Op.fieldAddr 64 (Go.Operand.tmp 5) 2, type := 0, pos := "crierref15.go:398", after := #[], guard := none }) (v := ?v28) rfl (by kernel_rfl) (by kernel_rfl) (by kernel_rfl) (by kernel_rfl) (by kernel_rfl) (fun _ _ _ h => h) (Or.inl ⟨by rfl, ?hy28⟩) hHeld ?rest28
                case hy28 => (intro w_ hSw; (try dsimp only at hSw); (try go_simp); (try with_reducible rfl))
                try simp only [Act.put, List.setIfInBounds_toArray, List.set_cons_zero, List.set_cons_succ]
                refine wpAnyLast_take (i := 4) (oi := { dst := some 82, op := Go.Op.fieldAddr 62 (Go.Operand.tmp 81) 2, type := 0, pos := "crierref15.go:398", after := #[{ on := 3, ground := Go.Ground.data }], guard := none }) (v := ?v29) rfl (by kernel_rfl) (by kernel_rfl) (by kernel_rfl) (by kernel_rfl) (by kernel_rfl) (fun _ _ _ h => h) (Or.inl ⟨by rfl, ?hy29⟩) hHeld ?rest29
                case hy29 => (intro w_ hSw; (try dsimp only at hSw); (try go_simp); (try with_reducible rfl))
                try simp only [Act.put, List.setIfInBounds_toArray, List.set_cons_zero, List.set_cons_succ]
                refine wpAnyLast_take (i := 5) (oi := { dst := some 83, op := Go.Op.load 23 (Go.Operand.tmp 82), type := 23, pos := "crierref15.go:398", after := #[{ on := 4, ground := Go.Ground.data }], guard := none }) (v := ?v30) rfl (by kernel_rfl) (by kernel_rfl) (by kernel_rfl) (by kernel_rfl) (by kernel_rfl) (fun _ _ _ h => h) (Or.inl ⟨by rfl, ?hy30⟩) hHeld ?rest30
                case hy30 => (intro w_ hSw; (try dsimp only at hSw); have G8__ := (show w_.cell? ⟨g8, 4, none⟩ = some V4 from (blk_cell hSw.b8 4).trans rfl); have G5__ := (show w_.cell? ⟨g5, 4, none⟩ = some (.slice (some adZ) x.f2.f2.length xc4) from (blk_cell hSw.b5 4).trans rfl); have FZ0_ := pw_cell_below hSw.low FZ0.out; have FZ1_ := pw_cell_below hSw.low FZ1.out; have FZ2_ := pw_cell_below hSw.low FZ2.out; have FZ3_ := pw_cell_below hSw.low FZ3.out; (try go_simp); (try with_reducible rfl))
                try simp only [Act.put, List.setIfInBounds_toArray, List.set_cons_zero, List.set_cons_succ]
                refine wpAnyLast_take (i := 6) (oi := { dst := some 84, op := Go.Op.move (Go.Operand.tmp 11), type := 3, pos := "crierref15.go:398", after := #[], guard := none }) (v := ?v31) rfl (by kernel_rfl) (by kernel_rfl) (by kernel_rfl) (by kernel_rfl) (by kernel_rfl) (fun _ _ _ h => h) (Or.inl ⟨by rfl, ?hy31⟩) hHeld ?rest31
                case hy31 => (intro w_ hSw; (try dsimp only at hSw); (try go_simp); (try with_reducible rfl))
                try simp only [Act.put, List.setIfInBounds_toArray, List.set_cons_zero, List.set_cons_succ]
                refine wpAnyLast_take (i := 7) (oi := { dst := some 85, op := Go.Op.indexAddr 23 (Go.Operand.tmp 83) (Go.Operand.tmp 84), type := 0, pos := "crierref15.go:398", after := #[{ on := 5, ground := Go.Ground.data }, { on := 6, ground := Go.Ground.data }], guard := none }) (v := ?v32) rfl (by kernel_rfl) (by kernel_rfl) (by kernel_rfl) (by kernel_rfl) (by kernel_rfl) (fun _ _ _ h => h) (Or.inl ⟨by rfl, ?hy32⟩) hHeld ?rest32
                case hy32 => (intro w_ hSw; (try dsimp only at hSw); (try go_simp); (try with_reducible rfl))
                try simp only [Act.put, List.setIfInBounds_toArray, List.set_cons_zero, List.set_cons_succ]
                refine wpAnyLast_take (i := 8) (oi := { dst := some 86, op := Go.Op.load 72 (Go.Operand.tmp 85), type := 72, pos := "crierref15.go:398", after := #[{ on := 7, ground := Go.Ground.data }], guard := none }) (v := ?v33) rfl (by kernel_rfl) (by kernel_rfl) (by kernel_rfl) (by kernel_rfl) (by kernel_rfl) (fun _ _ _ h => h) (Or.inl ⟨by rfl, ?hy33⟩) hHeld ?rest33
                case hy33 => (intro w_ hSw; (try dsimp only at hSw); have G8__ := (show w_.cell? ⟨g8, 4, none⟩ = some V4 from (blk_cell hSw.b8 4).trans rfl); have G5__ := (show w_.cell? ⟨g5, 4, none⟩ = some (.slice (some adZ) x.f2.f2.length xc4) from (blk_cell hSw.b5 4).trans rfl); have FZ0_ := pw_cell_below hSw.low FZ0.out; have FZ1_ := pw_cell_below hSw.low FZ1.out; have FZ2_ := pw_cell_below hSw.low FZ2.out; have FZ3_ := pw_cell_below hSw.low FZ3.out; (try go_simp); (try with_reducible rfl))
                try simp only [Act.put, List.setIfInBounds_toArray, List.set_cons_zero, List.set_cons_succ]
                refine wpAnyLast_ready (rs := [9]) (by kernel_rfl) (by simp) ?_
                refine AllReadyL.cons (o := { dst := some 87, op := Go.Op.call { callee := Go.Callee.value (Go.Operand.func 23), args := #[Go.Operand.tmp 86], argTypes := #[72] }, type := 72, pos := "crierref15.go:398", after := #[{ on := 8, ground := Go.Ground.data }], guard := none }) rfl (by decide) (fun K hK => ?_) AllReadyL.nil
                refine call_event (by rfl) 23 #[.agg #[.string z.f0, .slice ZA1 z.f1.length zc1, .int .i64 z.f2, .bool z.f3]] (by first | rfl | (go_simp; done) | (go_simp; rfl)) (own_calls z ZA1 zc1 _ (came_now (Kd.heap_int .u8) hHeld.low (Nat.le_refl _) HEZ1.out) HLZ1.out HOZ.out) (fun e wA_ hp => ?_)
                obtain ⟨PB, pd, rfl, hd_, hf_, hb⟩ := hp; refine ⟨_, rfl, ?_⟩
                have HPD := Aside0.mk hd_; have hO := on_new (L := L0d) 0 hb; have s3 := s3_below hb; have n0_ := Aside0.mk (HBs.out.step hO (fun h => h) s3); have n1_ := Aside0.mk (HB1.out.step hO (fun h => h)); have n2_ := Aside0.mk (HB2.out.step hO (fun h => h)); have n3_ := Aside0.mk (HB3.out.step hO (fun h => h)); have n4_ := Aside0.mk (HV1.out.step hO (fun h => h) (fun h => h)); have n5_ := Aside0.mk (HB5.out.step hO (fun h => h)); have n6_ := Aside0.mk (HB8.out.step hO (fun h => h)); have n7_ := Aside0.mk (FSA.out.only hO (fun h => h)); have n8_ := Aside0.mk (FIA.out.only hO (fun h => h)); have n9_ := Aside0.mk (HV3.out.step hO (fun h => h) (fun h => h)); have n10_ := Aside0.mk (HV4.out.step hO (fun h => h) (fun h => h)); have n11_ := Aside0.mk (hf_ L0d); generalize lab1 L0d _ 0 = L41 at n0_ n1_ n2_ n3_ n4_ n5_ n6_ n7_ n8_ n9_ n10_ n11_; clear hO s3 HBs HB1 HB2 HB3 HV1 HB5 HB8 FSA FIA HV3 HV4; have HBs := n0_; have HB1 := n1_; have HB2 := n2_; have HB3 := n3_; have HV1 := n4_; have HB5 := n5_; have HB8 := n6_; have FSA := n7_; have FIA := n8_; have HV3 := n9_; have HV4 := n10_; have FP := n11_; clear n0_ n1_ n2_ n3_ n4_ n5_ n6_ n7_ n8_ n9_ n10_ n11_; clear hf_ hd_ hb
                have hSn := S2.of HBs.out HB5.out HB8.out
                refine hK.out _ _ hSn (fun hHeld2 => ?_)
                clear hK K hHeld hSn; have hHeld := hHeld2; clear hHeld2
                try simp only [Act.put, List.setIfInBounds_toArray, List.set_cons_zero, List.set_cons_succ]
                refine wpAnyLast_ready (rs := [10]) (by kernel_rfl) (by simp) ?_
                refine AllReadyL.cons (o := { dst := some 88, op := Go.Op.buildSlice 23 1 #[(0, Go.Operand.tmp 87)], type := 23, pos := "crierref15.go:398", after := #[{ on := 9, ground := Go.Ground.data }], guard := none }) rfl (by decide) (fun K hK => ?_) AllReadyL.nil
                refine val_event (v := .slice (some ⟨wA_.heap.size, 0, none⟩) 1 1) (w1 := wA_.alloc (.cells #[.string z.f0, .slice PB z.f1.length pd, .int .i64 z.f2, .bool z.f3] 72)) (by rfl) ?hr35 ?_
                case hr35 => first | (go_simp; done) | (go_simp; rfl)
                have hSn := hHeld.alloc (.cells #[.string z.f0, .slice PB z.f1.length pd, .int .i64 z.f2, .bool z.f3] 72)
                refine hK.out _ _ hSn (fun hHeld2 => ?_)
                clear hK K hHeld hSn; have hHeld := hHeld2; clear hHeld2
                try simp only [Act.put, List.setIfInBounds_toArray, List.set_cons_zero, List.set_cons_succ]
                refine wpAnyLast_ready (rs := [11]) (by kernel_rfl) (by simp) ?_
                refine AllReadyL.cons (o := { dst := some 89, op := Go.Op.call { callee := Go.Callee.builtin Go.Builtin.append, args := #[Go.Operand.tmp 80, Go.Operand.tmp 88], argTypes := #[23, 23] }, type := 23, pos := "crierref15.go:398", after := #[{ on := 2, ground := Go.Ground.data }, { on := 10, ground := Go.Ground.data }, { on := 9, ground := Go.Ground.chain }], guard := none }) rfl (by decide) (fun K hK => ?_) AllReadyL.nil
                refine OwnRow.append_step (w0 := w) (R := fun p c => Firm L41 wA_ (fun W' => k72.K W' p c)) w.heap.size (by rfl) (.tmp 80) (.tmp 88) 23 72 (.agg #[(.string ⟨#[]⟩), (.slice none 0 0), (.int .i64 0), (.bool false)]) 4 56 rfl Try.underlying23 info72 rfl (by decide) (by decide) V4 (x.f2.f2.take k3) z [.string z.f0, .slice PB z.f1.length pd, .int .i64 z.f2, .bool z.f3] rfl rfl ?aP36 rfl ?a136 ?aO36 ?aB36 ?aS36 ?aL36 ?_
                case aP36 => exact FP.out.imp (fun W h => k72_mk W z HPD.out h)
                case a136 => simp [Value.oneCell']
                case aO36 => exact HV4.out.own
                case aB36 => exact HBs.out.below
                case aS36 => exact HBs.out.below.size
                case aL36 => (have : (x.f2.f2.take k3).length ≤ k3 := List.length_take_le _ _; omega)
                intro v1 wB_ ho hb hg hat; obtain ⟨Az, cz, ez, _⟩ := ho.slice_; generalize (x.f2.f2.take k3 ++ [z]).length = nz at ez; subst ez; have hO := on_grown HV4.out hg; have s3 := s3_grown hg; have n0_ := Aside0.mk (HBs.out.step hO (fun h => by cases h) s3); have n1_ := Aside0.mk (HB1.out.step hO (fun h => by cases h)); have n2_ := Aside0.mk (HB2.out.step hO (fun h => by cases h)); have n3_ := Aside0.mk (HB3.out.step hO (fun h => by cases h)); have n4_ := Aside0.mk (HV1.out.step hO (fun h => by cases h) (fun h => by cases h)); have n5_ := Aside0.mk (HB5.out.step hO (fun h => by cases h)); have n6_ := Aside0.mk (HB8.out.step hO (fun h => by cases h)); have n7_ := Aside0.mk (FSA.out.only hO (fun h => by cases h)); have n8_ := Aside0.mk (FIA.out.only hO (fun h => by cases h)); have n9_ := Aside0.mk (HV3.out.step hO (fun h => by cases h) (fun h => by cases h)); have n10_ := Aside0.mk (HV4.out.app (by decide) ho hg hat); have n11_ := Aside0.mk (FP.out.only hO (fun h => by cases h)); generalize lab1 L41 _ 204 = L42 at n0_ n1_ n2_ n3_ n4_ n5_ n6_ n7_ n8_ n9_ n10_ n11_; clear hO s3 HBs HB1 HB2 HB3 HV1 HB5 HB8 FSA FIA HV3 HV4 FP; have HBs := n0_; have HB1 := n1_; have HB2 := n2_; have HB3 := n3_; have HV1 := n4_; have HB5 := n5_; have HB8 := n6_; have FSA := n7_; have FIA := n8_; have HV3 := n9_; have HV4 := n10_; have FP := n11_; clear n0_ n1_ n2_ n3_ n4_ n5_ n6_ n7_ n8_ n9_ n10_ n11_; clear ho hb hg hat
                have hSn := S2.of HBs.out HB5.out HB8.out
                refine hK.out _ _ hSn (fun hHeld2 => ?_)
                clear hK K hHeld hSn; have hHeld := hHeld2; clear hHeld2
                try simp only [Act.put, List.setIfInBounds_toArray, List.set_cons_zero, List.set_cons_succ]
                refine wpAnyLast_take (i := 12) (oi := { dst := some 90, op := Go.Op.fieldAddr 64 (Go.Operand.tmp 8) 2, type := 0, pos := "crierref15.go:398", after := #[{ on := 0, ground := Go.Ground.phase }, { on := 1, ground := Go.Ground.phase }, { on := 2, ground := Go.Ground.phase }, { on := 3, ground := Go.Ground.phase }, { on := 4, ground := Go.Ground.phase }, { on := 5, ground := Go.Ground.phase }, { on := 6, ground := Go.Ground.phase }, { on := 7, ground := Go.Ground.phase }, { on := 8, ground := Go.Ground.phase }, { on := 9, ground := Go.Ground.phase }, { on := 10, ground := Go.Ground.phase }, { on := 11, ground := Go.Ground.phase }], guard := none }) (v := ?v37) rfl (by kernel_rfl) (by kernel_rfl) (by kernel_rfl) (by kernel_rfl) (by kernel_rfl) (fun _ _ _ h => h) (Or.inl ⟨by rfl, ?hy37⟩) hHeld ?rest37
                case hy37 => (intro w_ hSw; (try dsimp only at hSw); (try go_simp); (try with_reducible rfl))
                try simp only [Act.put, List.setIfInBounds_toArray, List.set_cons_zero, List.set_cons_succ]
                refine wpAnyLast_take (i := 13) (oi := { dst := some 91, op := Go.Op.fieldAddr 62 (Go.Operand.tmp 90) 2, type := 0, pos := "crierref15.go:398", after := #[{ on := 12, ground := Go.Ground.data }, { on := 0, ground := Go.Ground.phase }, { on := 1, ground := Go.Ground.phase }, { on := 2, ground := Go.Ground.phase }, { on := 3, ground := Go.Ground.phase }, { on := 4, ground := Go.Ground.phase }, { on := 5, ground := Go.Ground.phase }, { on := 6, ground := Go.Ground.phase }, { on := 7, ground := Go.Ground.phase }, { on := 8, ground := Go.Ground.phase }, { on := 9, ground := Go.Ground.phase }, { on := 10, ground := Go.Ground.phase }, { on := 11, ground := Go.Ground.phase }], guard := none }) (v := ?v38) rfl (by kernel_rfl) (by kernel_rfl) (by kernel_rfl) (by kernel_rfl) (by kernel_rfl) (fun _ _ _ h => h) (Or.inl ⟨by rfl, ?hy38⟩) hHeld ?rest38
                case hy38 => (intro w_ hSw; (try dsimp only at hSw); (try go_simp); (try with_reducible rfl))
                try simp only [Act.put, List.setIfInBounds_toArray, List.set_cons_zero, List.set_cons_succ]
                refine wpAnyLast_ready (rs := [14]) (by kernel_rfl) (by simp) ?_
                refine AllReadyL.cons_last (o := { dst := none, op := Go.Op.store 23 (Go.Operand.tmp 91) (Go.Operand.tmp 89), type := 0, pos := "crierref15.go:398", after := #[{ on := 13, ground := Go.Ground.data }, { on := 11, ground := Go.Ground.data }, { on := 11, ground := Go.Ground.chain }, { on := 0, ground := Go.Ground.phase }, { on := 1, ground := Go.Ground.phase }, { on := 2, ground := Go.Ground.phase }, { on := 3, ground := Go.Ground.phase }, { on := 4, ground := Go.Ground.phase }, { on := 5, ground := Go.Ground.phase }, { on := 6, ground := Go.Ground.phase }, { on := 7, ground := Go.Ground.phase }, { on := 8, ground := Go.Ground.phase }, { on := 9, ground := Go.Ground.phase }, { on := 10, ground := Go.Ground.phase }, { on := 11, ground := Go.Ground.phase }], guard := none }) rfl (by decide) (fun K hK => ?_) AllReadyL.nil
                refine st1_event (by rfl) rfl g8 4 (.slice Az nz cz) 64 _ HB8.out.blk ?hr39 (fun wC_ hx hk => ?_)
                case hr39 => (have hc_ := (blk_cell HB8.out.blk 4).trans rfl; have hf_ := blk_frozen HB8.out.blk 4; go_simp; try rfl)
                have hO := on_one hk HB8.out.lab; have s3 := s3_one hk; have n0_ := Aside0.mk (HBs.out.step hO (fun h => by cases h) s3); have n1_ := Aside0.mk (HB1.out.step hO (fun h => by cases h)); have n2_ := Aside0.mk (HB2.out.step hO (fun h => by cases h)); have n3_ := Aside0.mk (HB3.out.step hO (fun h => by cases h)); have n4_ := Aside0.mk (HV1.out.step hO (fun h => by cases h) (fun h => by cases h)); have n5_ := Aside0.mk (HB5.out.step hO (fun h => by cases h)); have n6_ := Aside0.mk (HB8.out.set (show wC_.heap[g8]? = some (.cells #[.string x.f0, .slice SA x.f1.length sc, .int .i64 x.f2.f0, V3, .slice Az nz cz, .slice IA x.f3.length ic] 64 (0, 0)) from hx)); have n7_ := Aside0.mk (FSA.out.only hO (fun h => by cases h)); have n8_ := Aside0.mk (FIA.out.only hO (fun h => by cases h)); have n9_ := Aside0.mk (HV3.out.step hO (fun h => by cases h) (fun h => by cases h)); have n10_ := Aside0.mk (HV4.out.step hO (fun h => by cases h) (fun h => by cases h)); have n11_ := Aside0.mk (FP.out.only hO (fun h => by cases h)); clear hO s3 HBs HB1 HB2 HB3 HV1 HB5 HB8 FSA FIA HV3 HV4 FP; have HBs := n0_; have HB1 := n1_; have HB2 := n2_; have HB3 := n3_; have HV1 := n4_; have HB5 := n5_; have HB8 := n6_; have FSA := n7_; have FIA := n8_; have HV3 := n9_; have HV4 := n10_; have FP := n11_; clear n0_ n1_ n2_ n3_ n4_ n5_ n6_ n7_ n8_ n9_ n10_ n11_; clear hx hk
                refine hK.out _ _ ?_
                clear hK K
                try simp only [Act.put, List.setIfInBounds_toArray, List.set_cons_zero, List.set_cons_succ]
                refine wpAnyLast_done (by kernel_rfl) ?_ _
                refine NoPanic.normal ?_
                try go_wp2
                go_roundw
                case rel => exact ⟨k3 + 1, _, _, by omega, by go_num, HBs, HB1, HB2, HB3, HV1, HB5, HB8, FSA, FIA, HV3, ⟨by rw [List.take_add_one, HXZ.out]; exact HV4.out⟩⟩
                case measure => simp [intOf]; omega
              · obtain rfl : k3 = x.f2.f2.length := by omega
                rw [List.take_length] at HV4
                clear hlt3 hk3
                obtain ⟨VA3, vc3, e_, hc_, hf_⟩ := HV3.out.firm; have n0_ := Aside0.mk (HBs.out.frz (v := V3)); have n1_ := Aside0.mk (HB1.out.frz HV3.out (by decide)); have n2_ := Aside0.mk (HB2.out.frz HV3.out (by decide)); have n3_ := Aside0.mk (HB3.out.frz HV3.out (by decide)); have n4_ := Aside0.mk (HV1.out.frz HV3.out (by decide)); have n5_ := Aside0.mk (HB5.out.frz HV3.out (by decide)); have n6_ := Aside0.mk (HB8.out.frz HV3.out (by decide)); have n7_ := Aside0.mk (FSA.out.frz (v := V3)); have n8_ := Aside0.mk (FIA.out.frz (v := V3)); have n9_ := Aside0.mk (HV4.out.frz HV3.out (by decide)); have n10_ := Aside0.mk hf_; have HVL3 := Aside0.mk hc_; generalize Rm.frz L0d V3 = L51 at n0_ n1_ n2_ n3_ n4_ n5_ n6_ n7_ n8_ n9_ n10_; subst e_; clear hc_ hf_ HBs HB1 HB2 HB3 HV1 HB5 HB8 FSA FIA HV3 HV4; have HBs := n0_; have HB1 := n1_; have HB2 := n2_; have HB3 := n3_; have HV1 := n4_; have HB5 := n5_; have HB8 := n6_; have FSA := n7_; have FIA := n8_; have HV4 := n9_; have F3 := n10_; clear n0_ n1_ n2_ n3_ n4_ n5_ n6_ n7_ n8_ n9_ n10_
                obtain ⟨VA4, vc4, e_, hc_, hf_⟩ := HV4.out.firm; have n0_ := Aside0.mk (HBs.out.frz (v := V4)); have n1_ := Aside0.mk (HB1.out.frz HV4.out (by decide)); have n2_ := Aside0.mk (HB2.out.frz HV4.out (by decide)); have n3_ := Aside0.mk (HB3.out.frz HV4.out (by decide)); have n4_ := Aside0.mk (HV1.out.frz HV4.out (by decide)); have n5_ := Aside0.mk (HB5.out.frz HV4.out (by decide)); have n6_ := Aside0.mk (HB8.out.frz HV4.out (by decide)); have n7_ := Aside0.mk (FSA.out.frz (v := V4)); have n8_ := Aside0.mk (FIA.out.frz (v := V4)); have n9_ := Aside0.mk (F3.out.frz (v := V4)); have n10_ := Aside0.mk hf_; have HVL4 := Aside0.mk hc_; generalize Rm.frz L51 V4 = L52 at n0_ n1_ n2_ n3_ n4_ n5_ n6_ n7_ n8_ n9_ n10_; subst e_; clear hc_ hf_ HBs HB1 HB2 HB3 HV1 HB5 HB8 FSA FIA HV4 F3; have HBs := n0_; have HB1 := n1_; have HB2 := n2_; have HB3 := n3_; have HV1 := n4_; have HB5 := n5_; have HB8 := n6_; have FSA := n7_; have FIA := n8_; have F3 := n9_; have F4 := n10_; clear n0_ n1_ n2_ n3_ n4_ n5_ n6_ n7_ n8_ n9_ n10_
                go_wp2_with (first | ((with_reducible refine gate_dst (N := 73) rfl ?_); (refine val_list rfl (v := (.slice XA4 x.f2.f2.length xc4)) ?hr ?_; (case hr => (have hc_ := (blk_cell HB5.out.blk 4).trans rfl; go_simp; try rfl)))) | ((with_reducible refine gate_dst (N := 93) rfl ?_); (refine val_list rfl (v := V1) ?hr ?_; (case hr => (have hc_ := (blk_cell HB3.out.blk 1).trans rfl; go_simp; try rfl)))) | ((with_reducible refine gate_dst (N := 94) rfl ?_); (refine ev_load rfl 64 (.tmp 8) rfl g8 0 6 rfl 64 (0, 0) _ HB8.out.blk _ HuS.out rfl ([.string x.f0, .slice SA x.f1.length sc, .int .i64 x.f2.f0, .slice VA3 x.f2.f1.length vc3, .slice VA4 x.f2.f2.length vc4, .slice IA x.f3.length ic]) rfl (by kernel_rfl) ?_)) | ((with_reducible refine gate_builtin (b := .append) (xs := #[.tmp 93, .tmp 95]) rfl ?_); at_builtin; (refine OwnRow.append (w0 := w) (R := fun p c => Firm L52 wn (fun W' => k64.K W' p c)) w.heap.size rfl (.tmp 93) (.tmp 95) 22 64 (.agg #[(.string ⟨#[]⟩), (.slice none 0 0), (.int .i64 0), (.slice none 0 0), (.slice none 0 0), (.slice none 0 0)]) 6 120 rfl Try.underlying22 info64 rfl (by decide) (by decide) V1 (ls.take k) x [.string x.f0, .slice SA x.f1.length sc, .int .i64 x.f2.f0, .slice VA3 x.f2.f1.length vc3, .slice VA4 x.f2.f2.length vc4, .slice IA x.f3.length ic] rfl rfl ?aP rfl ?a1 ?aO ?aB ?aS ?aL ?_; (case aP => exact (((FSA.out.and F3.out).and F4.out).and FIA.out).imp (fun W h => k64_mk W x HSC.out h.1.1.1 HVL3.out h.1.1.2 HVL4.out h.1.2 HIC.out h.2)); (case a1 => simp [Value.oneCell']); (case aO => exact HV1.out.own); (case aB => exact HBs.out.below); (case aS => exact HBs.out.below.size); (case aL => (have : (ls.take k).length ≤ k := List.length_take_le _ _; omega)); intro v1 w50_ ho hb hg hat; obtain ⟨Az, cz, ez, _⟩ := ho.slice_; generalize (ls.take k ++ [x]).length = nz at ez; subst ez; have hO := on_grown HV1.out hg; have s3 := s3_grown hg; have n0_ := Aside0.mk (HBs.out.step hO (fun h => by cases h) s3); have n1_ := Aside0.mk (HB1.out.step hO (fun h => by cases h)); have n2_ := Aside0.mk (HB2.out.step hO (fun h => by cases h)); have n3_ := Aside0.mk (HB3.out.step hO (fun h => by cases h)); have n4_ := Aside0.mk (HV1.out.app (by decide) ho hg hat); have n5_ := Aside0.mk (HB5.out.step hO (fun h => by cases h)); have n6_ := Aside0.mk (HB8.out.step hO (fun h => by cases h)); have n7_ := Aside0.mk (FSA.out.only hO (fun h => by cases h)); have n8_ := Aside0.mk (FIA.out.only hO (fun h => by cases h)); have n9_ := Aside0.mk (F3.out.only hO (fun h => by cases h)); have n10_ := Aside0.mk (F4.out.only hO (fun h => by cases h)); generalize lab1 L52 _ 201 = L53 at n0_ n1_ n2_ n3_ n4_ n5_ n6_ n7_ n8_ n9_ n10_; clear hO s3 HBs HB1 HB2 HB3 HV1 HB5 HB8 FSA FIA F3 F4; have HBs := n0_; have HB1 := n1_; have HB2 := n2_; have HB3 := n3_; have HV1 := n4_; have HB5 := n5_; have HB8 := n6_; have FSA := n7_; have FIA := n8_; have F3 := n9_; have F4 := n10_; clear n0_ n1_ n2_ n3_ n4_ n5_ n6_ n7_ n8_ n9_ n10_; clear ho hb hg hat)) | ((with_reducible refine gate_st (y := .tmp 96) rfl ?_); (refine st1_list rfl rfl g3 1 (.slice Az nz cz) 26 _ HB3.out.blk ?hr ?_; (case hr => (have hc_ := (blk_cell HB3.out.blk 1).trans rfl; have hf_ := blk_frozen HB3.out.blk 1; go_simp; try rfl)); intro w51_ hx hk; have hO := on_one hk HB3.out.lab; have s3 := s3_one hk; have n0_ := Aside0.mk (HBs.out.step hO (fun h => by cases h) s3); have n1_ := Aside0.mk (HB1.out.step hO (fun h => by cases h)); have n2_ := Aside0.mk (HB2.out.step hO (fun h => by cases h)); have n3_ := Aside0.mk (HB3.out.set (show w51_.heap[g3]? = some (.cells #[.int .i64 au, .slice Az nz cz, .slice none 0 0, .slice none 0 0] 26 (0, 0)) from hx)); have n4_ := Aside0.mk (HV1.out.step hO (fun h => by cases h) (fun h => by cases h)); have n5_ := Aside0.mk (HB5.out.step hO (fun h => by cases h)); have n6_ := Aside0.mk (HB8.out.step hO (fun h => by cases h)); have n7_ := Aside0.mk (FSA.out.only hO (fun h => by cases h)); have n8_ := Aside0.mk (FIA.out.only hO (fun h => by cases h)); have n9_ := Aside0.mk (F3.out.only hO (fun h => by cases h)); have n10_ := Aside0.mk (F4.out.only hO (fun h => by cases h)); clear hO s3 HBs HB1 HB2 HB3 HV1 HB5 HB8 FSA FIA F3 F4; have HBs := n0_; have HB1 := n1_; have HB2 := n2_; have HB3 := n3_; have HV1 := n4_; have HB5 := n5_; have HB8 := n6_; have FSA := n7_; have FIA := n8_; have F3 := n9_; have F4 := n10_; clear n0_ n1_ n2_ n3_ n4_ n5_ n6_ n7_ n8_ n9_ n10_; clear hx hk)))
                go_roundw
                case rel => exact ⟨k + 1, _, _, by omega, by go_num, HBs, HB1, HB2, HB3, ⟨by rw [List.take_add_one, HXX.out]; exact HV1.out⟩⟩
                case measure => simp [intOf]; omega
    · obtain rfl : k = ls.length := by omega
      rw [List.take_length] at HV1
      clear hlt hk
      go_wp2_with (first | ((with_reducible refine gate_dst (N := 18) rfl ?_); (refine val_list rfl (v := (.slice A1 ls.length c1)) ?hr ?_; (case hr => (have hc_ := (blk_cell HB1.out.blk 1).trans rfl; go_simp; try rfl)))))
      have HV2 : Aside0 (Ow k72 72 w.heap.size (.slice none 0 0) [] 202 Lk wo) := ⟨Ow.nil _ _ _ _ _ _⟩
      go_loopw [12] (fun i wr => ∃ (k4 : Nat) (Lk_ : Nat → Nat) (V2 : Value), k4 ≤ lr.length ∧ i = .int .i64 k4 ∧ Aside0 (Bs w Lk_ wr) ∧ Aside0 (Bk g1 #[.int .i64 au, .slice A1 ls.length c1, .slice A2 lr.length c2, .slice A3 lg.length c3] 26 210 Lk_ wr) ∧ Aside0 (Bk g2 #[.int .i64 0, .slice none 0 0, .slice none 0 0, .slice none 0 0] 26 214 Lk_ wr) ∧ Aside0 (Bk g3 #[.int .i64 au, V1, V2, .slice none 0 0] 26 211 Lk_ wr) ∧ Aside0 (Ow k64 64 w.heap.size V1 ls 201 Lk_ wr) ∧ Aside0 (Ow k72 72 w.heap.size V2 (lr.take k4) 202 Lk_ wr)) (fun i _ => lr.length - (intOf i).toNat)
      case atStart => exact ⟨0, _, _, Nat.zero_le _, rfl, HBs, HB1, HB2, HB3, HV1, ⟨by rw [List.take_zero]; exact HV2.out⟩⟩
      case round =>
        clear HBs HB1 HB2 HB3 HV1 HV2
        obtain ⟨k4, L0e, V2, hk4, rfl, HBs, HB1, HB2, HB3, HV1, HV2⟩ := hrel
        obtain ⟨wn, hwn⟩ : ∃ z, z = wr := ⟨_, rfl⟩; subst hwn
        by_cases hlt4 : k4 < lr.length
        · skip
          obtain ⟨adZ, ZA1, zc1, e_, r0, r1, r2, r3, l1_, g1_⟩ := at_T72 HR2.out (k4 : Int) (by omega) (by omega)
          skip
          obtain ⟨z, hx_⟩ : ∃ z, z = rd_T72 (lr) k4 := ⟨_, rfl⟩
          rw [← hx_, Int.toNat_natCast] at r0 r1 r2 r3
          rw [← hx_] at l1_ g1_
          have hx' := at_k hlt4 hx_; have HXZ := Aside0.mk hx'; have HMZ := Aside0.mk (List.mem_of_getElem? hx'); clear hx_ hx'
          have FZ0 := Aside0.mk r0; clear r0
          have FZ1 := Aside0.mk r1; clear r1
          have FZ2 := Aside0.mk r2; clear r2
          have FZ3 := Aside0.mk r3; clear r3
          have HLZ1 := Aside0.mk l1_; have HEZ1 := Aside0.mk g1_; clear l1_ g1_
          subst e_
          have HOZ : Aside0 (z.f1.length ≤ 536870912) := ⟨HZ2.out z HMZ.out⟩
          go_upto_region 24 with (first | ((with_reducible refine gate_dst (N := 100) rfl ?_); (refine val_list rfl (v := (.slice (some adZ) lr.length c2)) ?hr ?_; (case hr => (have hc_ := (blk_cell HB1.out.blk 2).trans rfl; go_simp; try rfl)))))
          refine wp_region_noPanic ?_
          refine wp_region_last_drew (S := fun W => S2 w g1 #[.int .i64 au, .slice A1 ls.length c1, .slice (some adZ) lr.length c2, .slice A3 lg.length c3] 26 g3 #[.int .i64 au, V1, V2, .slice none 0 0] 26 W) (ds := [11]) (by kernel_rfl) ?hS0 (fun hHeld => ?_)
          case hS0 => exact ⟨HBs.out.below.drew, HB1.out.blk, HB3.out.blk⟩
          have hO := only_drew (X := No) (L := L0e) (w := wn); have s3 := s3_drew (w := wn); have n0_ := Aside0.mk (HBs.out.step hO (fun h => h) s3); have n1_ := Aside0.mk (HB1.out.step hO (fun h => h)); have n2_ := Aside0.mk (HB2.out.step hO (fun h => h)); have n3_ := Aside0.mk (HB3.out.step hO (fun h => h)); have n4_ := Aside0.mk (HV1.out.step hO (fun h => h) (fun h => h)); have n5_ := Aside0.mk (HV2.out.step hO (fun h => h) (fun h => h)); clear hO s3 HBs HB1 HB2 HB3 HV1 HV2; have HBs := n0_; have HB1 := n1_; have HB2 := n2_; have HB3 := n3_; have HV1 := n4_; have HV2 := n5_; clear n0_ n1_ n2_ n3_ n4_ n5_
          refine wpAnyLast_take (i := 0) (oi := { dst := some 105, op := Go.Op.fieldAddr 26 (Go.Operand.tmp 3) 2, type := 0, pos := "crierref15.go:403", after := #[], guard := none }) (v := ?v40) rfl (by kernel_rfl) (by kernel_rfl) (by kernel_rfl) (by kernel_rfl) (by kernel_rfl) (fun _ _ _ h => h) (Or.inl ⟨by rfl, ?hy40⟩) hHeld ?rest40
          case hy40 => (intro w_ hSw; (try dsimp only at hSw); (try go_simp); (try with_reducible rfl))
          try simp only [Act.put, List.setIfInBounds_toArray, List.set_cons_zero, List.set_cons_succ]
          refine wpAnyLast_take (i := 1) (oi := { dst := some 106, op := Go.Op.load 23 (Go.Operand.tmp 105), type := 23, pos := "crierref15.go:403", after := #[{ on := 0, ground := Go.Ground.data }], guard := none }) (v := ?v41) rfl (by kernel_rfl) (by kernel_rfl) (by kernel_rfl) (by kernel_rfl) (by kernel_rfl) (fun _ _ _ h => h) (Or.inl ⟨by rfl, ?hy41⟩) hHeld ?rest41
          case hy41 => (intro w_ hSw; (try dsimp only at hSw); have G8__ := (show w_.cell? ⟨g3, 2, none⟩ = some V2 from (blk_cell hSw.b8 2).trans rfl); have G5__ := (show w_.cell? ⟨g1, 2, none⟩ = some (.slice (some adZ) lr.length c2) from (blk_cell hSw.b5 2).trans rfl); have FZ0_ := pw_cell_below hSw.low FZ0.out; have FZ1_ := pw_cell_below hSw.low FZ1.out; have FZ2_ := pw_cell_below hSw.low FZ2.out; have FZ3_ := pw_cell_below hSw.low FZ3.out; (try go_simp); (try with_reducible rfl))
          try simp only [Act.put, List.setIfInBounds_toArray, List.set_cons_zero, List.set_cons_succ]
          refine wpAnyLast_take (i := 2) (oi := { dst := some 107, op := Go.Op.fieldAddr 26 (Go.Operand.tmp 1) 2, type := 0, pos := "crierref15.go:403", after := #[], guard := none }) (v := ?v42) rfl (by kernel_rfl) (by kernel_rfl) (by kernel_rfl) (by kernel_rfl) (by kernel_rfl) (fun _ _ _ h => h) (Or.inl ⟨by rfl, ?hy42⟩) hHeld ?rest42
          case hy42 => (intro w_ hSw; (try dsimp only at hSw); (try go_simp); (try with_reducible rfl))
          try simp only [Act.put, List.setIfInBounds_toArray, List.set_cons_zero, List.set_cons_succ]
          refine wpAnyLast_take (i := 3) (oi := { dst := some 108, op := Go.Op.load 23 (Go.Operand.tmp 107), type := 23, pos := "crierref15.go:403", after := #[{ on := 2, ground := Go.Ground.data }], guard := none }) (v := ?v43) rfl (by kernel_rfl) (by kernel_rfl) (by kernel_rfl) (by kernel_rfl) (by kernel_rfl) (fun _ _ _ h => h) (Or.inl ⟨by rfl, ?hy43⟩) hHeld ?rest43
          case hy43 => (intro w_ hSw; (try dsimp only at hSw); have G8__ := (show w_.cell? ⟨g3, 2, none⟩ = some V2 from (blk_cell hSw.b8 2).trans rfl); have G5__ := (show w_.cell? ⟨g1, 2, none⟩ = some (.slice (some adZ) lr.length c2) from (blk_cell hSw.b5 2).trans rfl); have FZ0_ := pw_cell_below hSw.low FZ0.out; have FZ1_ := pw_cell_below hSw.low FZ1.out; have FZ2_ := pw_cell_below hSw.low FZ2.out; have FZ3_ := pw_cell_below hSw.low FZ3.out; (try go_simp); (try with_reducible rfl))
          try simp only [Act.put, List.setIfInBounds_toArray, List.set_cons_zero, List.set_cons_succ]
          refine wpAnyLast_take (i := 4) (oi := { dst := some 109, op := Go.Op.move (Go.Operand.tmp 12), type := 3, pos := "crierref15.go:403", after := #[], guard := none }) (v := ?v44) rfl (by kernel_rfl) (by kernel_rfl) (by kernel_rfl) (by kernel_rfl) (by kernel_rfl) (fun _ _ _ h => h) (Or.inl ⟨by rfl, ?hy44⟩) hHeld ?rest44
          case hy44 => (intro w_ hSw; (try dsimp only at hSw); (try go_simp); (try with_reducible rfl))
          try simp only [Act.put, List.setIfInBounds_toArray, List.set_cons_zero, List.set_cons_succ]
          refine wpAnyLast_take (i := 5) (oi := { dst := some 110, op := Go.Op.indexAddr 23 (Go.Operand.tmp 108) (Go.Operand.tmp 109), type := 0, pos := "crierref15.go:403", after := #[{ on := 3, ground := Go.Ground.data }, { on := 4, ground := Go.Ground.data }], guard := none }) (v := ?v45) rfl (by kernel_rfl) (by kernel_rfl) (by kernel_rfl) (by kernel_rfl) (by kernel_rfl) (fun _ _ _ h => h) (Or.inl ⟨by rfl, ?hy45⟩) hHeld ?rest45
          case hy45 => (intro w_ hSw; (try dsimp only at hSw); (try go_simp); (try with_reducible rfl))
          try simp only [Act.put, List.setIfInBounds_toArray, List.set_cons_zero, List.set_cons_succ]
          refine wpAnyLast_take (i := 6) (oi := { dst := some 111, op := Go.Op.load 72 (Go.Operand.tmp 110), type := 72, pos := "crierref15.go:403", after := #[{ on := 5, ground := Go.Ground.data }], guard := none }) (v := ?v46) rfl (by kernel_rfl) (by kernel_rfl) (by kernel_rfl) (by kernel_rfl) (by kernel_rfl) (fun _ _ _ h => h) (Or.inl ⟨by rfl, ?hy46⟩) hHeld ?rest46
          case hy46 => (intro w_ hSw; (try dsimp only at hSw); have G8__ := (show w_.cell? ⟨g3, 2, none⟩ = some V2 from (blk_cell hSw.b8 2).trans rfl); have G5__ := (show w_.cell? ⟨g1, 2, none⟩ = some (.slice (some adZ) lr.length c2) from (blk_cell hSw.b5 2).trans rfl); have FZ0_ := pw_cell_below hSw.low FZ0.out; have FZ1_ := pw_cell_below hSw.low FZ1.out; have FZ2_ := pw_cell_below hSw.low FZ2.out; have FZ3_ := pw_cell_below hSw.low FZ3.out; (try go_simp); (try with_reducible rfl))
          try simp only [Act.put, List.setIfInBounds_toArray, List.set_cons_zero, List.set_cons_succ]
          refine wpAnyLast_ready (rs := [7]) (by kernel_rfl) (by simp) ?_
          refine AllReadyL.cons (o := { dst := some 112, op := Go.Op.call { callee := Go.Callee.value (Go.Operand.func 23), args := #[Go.Operand.tmp 111], argTypes := #[72] }, type := 72, pos := "crierref15.go:403", after := #[{ on := 6, ground := Go.Ground.data }], guard := none }) rfl (by decide) (fun K hK => ?_) AllReadyL.nil
          refine call_event (by rfl) 23 #[.agg #[.string z.f0, .slice ZA1 z.f1.length zc1, .int .i64 z.f2, .bool z.f3]] (by first | rfl | (go_simp; done) | (go_simp; rfl)) (own_calls z ZA1 zc1 _ (came_now (Kd.heap_int .u8) hHeld.low (Nat.le_refl _) HEZ1.out) HLZ1.out HOZ.out) (fun e wA_ hp => ?_)
          obtain ⟨PB, pd, rfl, hd_, hf_, hb⟩ := hp; refine ⟨_, rfl, ?_⟩
          have HPD := Aside0.mk hd_; have hO := on_new (L := L0e) 0 hb; have s3 := s3_below hb; have n0_ := Aside0.mk (HBs.out.step hO (fun h => h) s3); have n1_ := Aside0.mk (HB1.out.step hO (fun h => h)); have n2_ := Aside0.mk (HB2.out.step hO (fun h => h)); have n3_ := Aside0.mk (HB3.out.step hO (fun h => h)); have n4_ := Aside0.mk (HV1.out.step hO (fun h => h) (fun h => h)); have n5_ := Aside0.mk (HV2.out.step hO (fun h => h) (fun h => h)); have n6_ := Aside0.mk (hf_ L0e); generalize lab1 L0e _ 0 = L41 at n0_ n1_ n2_ n3_ n4_ n5_ n6_; clear hO s3 HBs HB1 HB2 HB3 HV1 HV2; have HBs := n0_; have HB1 := n1_; have HB2 := n2_; have HB3 := n3_; have HV1 := n4_; have HV2 := n5_; have FP := n6_; clear n0_ n1_ n2_ n3_ n4_ n5_ n6_; clear hf_ hd_ hb
          have hSn := S2.of HBs.out HB1.out HB3.out
          refine hK.out _ _ hSn (fun hHeld2 => ?_)
          clear hK K hHeld hSn; have hHeld := hHeld2; clear hHeld2
          try simp only [Act.put, List.setIfInBounds_toArray, List.set_cons_zero, List.set_cons_succ]
          refine wpAnyLast_ready (rs := [8]) (by kernel_rfl) (by simp) ?_
          refine AllReadyL.cons (o := { dst := some 113, op := Go.Op.buildSlice 23 1 #[(0, Go.Operand.tmp 112)], type := 23, pos := "crierref15.go:403", after := #[{ on := 7, ground := Go.Ground.data }], guard := none }) rfl (by decide) (fun K hK => ?_) AllReadyL.nil
          refine val_event (v := .slice (some ⟨wA_.heap.size, 0, none⟩) 1 1) (w1 := wA_.alloc (.cells #[.string z.f0, .slice PB z.f1.length pd, .int .i64 z.f2, .bool z.f3] 72)) (by rfl) ?hr48 ?_
          case hr48 => first | (go_simp; done) | (go_simp; rfl)
          have hSn := hHeld.alloc (.cells #[.string z.f0, .slice PB z.f1.length pd, .int .i64 z.f2, .bool z.f3] 72)
          refine hK.out _ _ hSn (fun hHeld2 => ?_)
          clear hK K hHeld hSn; have hHeld := hHeld2; clear hHeld2
          try simp only [Act.put, List.setIfInBounds_toArray, List.set_cons_zero, List.set_cons_succ]
          refine wpAnyLast_ready (rs := [9]) (by kernel_rfl) (by simp) ?_
          refine AllReadyL.cons (o := { dst := some 114, op := Go.Op.call { callee := Go.Callee.builtin Go.Builtin.append, args := #[Go.Operand.tmp 106, Go.Operand.tmp 113], argTypes := #[23, 23] }, type := 23, pos := "crierref15.go:403", after := #[{ on := 1, ground := Go.Ground.data }, { on := 8, ground := Go.Ground.data }, { on := 7, ground := Go.Ground.chain }], guard := none }) rfl (by decide) (fun K hK => ?_) AllReadyL.nil
          refine OwnRow.append_step (w0 := w) (R := fun p c => Firm L41 wA_ (fun W' => k72.K W' p c)) w.heap.size (by rfl) (.tmp 106) (.tmp 113) 23 72 (.agg #[(.string ⟨#[]⟩), (.slice none 0 0), (.int .i64 0), (.bool false)]) 4 56 rfl Try.underlying23 info72 rfl (by decide) (by decide) V2 (lr.take k4) z [.string z.f0, .slice PB z.f1.length pd, .int .i64 z.f2, .bool z.f3] rfl rfl ?aP49 rfl ?a149 ?aO49 ?aB49 ?aS49 ?aL49 ?_
          case aP49 => exact FP.out.imp (fun W h => k72_mk W z HPD.out h)
          case a149 => simp [Value.oneCell']
          case aO49 => exact HV2.out.own
          case aB49 => exact HBs.out.below
          case aS49 => exact HBs.out.below.size
          case aL49 => (have : (lr.take k4).length ≤ k4 := List.length_take_le _ _; omega)
          intro v1 wB_ ho hb hg hat; obtain ⟨Az, cz, ez, _⟩ := ho.slice_; generalize (lr.take k4 ++ [z]).length = nz at ez; subst ez; have hO := on_grown HV2.out hg; have s3 := s3_grown hg; have n0_ := Aside0.mk (HBs.out.step hO (fun h => by cases h) s3); have n1_ := Aside0.mk (HB1.out.step hO (fun h => by cases h)); have n2_ := Aside0.mk (HB2.out.step hO (fun h => by cases h)); have n3_ := Aside0.mk (HB3.out.step hO (fun h => by cases h)); have n4_ := Aside0.mk (HV1.out.step hO (fun h => by cases h) (fun h => by cases h)); have n5_ := Aside0.mk (HV2.out.app (by decide) ho hg hat); have n6_ := Aside0.mk (FP.out.only hO (fun h => by cases h)); generalize lab1 L41 _ 202 = L42 at n0_ n1_ n2_ n3_ n4_ n5_ n6_; clear hO s3 HBs HB1 HB2 HB3 HV1 HV2 FP; have HBs := n0_; have HB1 := n1_; have HB2 := n2_; have HB3 := n3_; have HV1 := n4_; have HV2 := n5_; have FP := n6_; clear n0_ n1_ n2_ n3_ n4_ n5_ n6_; clear ho hb hg hat
          have hSn := S2.of HBs.out HB1.out HB3.out
          refine hK.out _ _ hSn (fun hHeld2 => ?_)
          clear hK K hHeld hSn; have hHeld := hHeld2; clear hHeld2
          try simp only [Act.put, List.setIfInBounds_toArray, List.set_cons_zero, List.set_cons_succ]
          refine wpAnyLast_take (i := 10) (oi := { dst := some 115, op := Go.Op.fieldAddr 26 (Go.Operand.tmp 3) 2, type := 0, pos := "crierref15.go:403", after := #[{ on := 0, ground := Go.Ground.phase }, { on := 1, ground := Go.Ground.phase }, { on := 2, ground := Go.Ground.phase }, { on := 3, ground := Go.Ground.phase }, { on := 4, ground := Go.Ground.phase }, { on := 5, ground := Go.Ground.phase }, { on := 6, ground := Go.Ground.phase }, { on := 7, ground := Go.Ground.phase }, { on := 8, ground := Go.Ground.phase }, { on := 9, ground := Go.Ground.phase }], guard := none }) (v := ?v50) rfl (by kernel_rfl) (by kernel_rfl) (by kernel_rfl) (by kernel_rfl) (by kernel_rfl) (fun _ _ _ h => h) (Or.inl ⟨by rfl, ?hy50⟩) hHeld ?rest50
          case hy50 => (intro w_ hSw; (try dsimp only at hSw); (try go_simp); (try with_reducible rfl))
          try simp only [Act.put, List.setIfInBounds_toArray, List.set_cons_zero, List.set_cons_succ]
          refine wpAnyLast_ready (rs := [11]) (by kernel_rfl) (by simp) ?_
          refine AllReadyL.cons_last (o := { dst := none, op := Go.Op.store 23 (Go.Operand.tmp 115) (Go.Operand.tmp 114), type := 0, pos := "crierref15.go:403", after := #[{ on := 10, ground := Go.Ground.data }, { on := 9, ground := Go.Ground.data }, { on := 9, ground := Go.Ground.chain }, { on := 0, ground := Go.Ground.phase }, { on := 1, ground := Go.Ground.phase }, { on := 2, ground := Go.Ground.phase }, { on := 3, ground := Go.Ground.phase }, { on := 4, ground := Go.Ground.phase }, { on := 5, ground := Go.Ground.phase }, { on := 6, ground := Go.Ground.phase }, { on := 7, ground := Go.Ground.phase }, { on := 8, ground := Go.Ground.phase }, { on := 9, ground := Go.Ground.phase }], guard := none }) rfl (by decide) (fun K hK => ?_) AllReadyL.nil
          refine st1_event (by rfl) rfl g3 2 (.slice Az nz cz) 26 _ HB3.out.blk ?hr51 (fun wC_ hx hk => ?_)
          case hr51 => (have hc_ := (blk_cell HB3.out.blk 2).trans rfl; have hf_ := blk_frozen HB3.out.blk 2; go_simp; try rfl)
          have hO := on_one hk HB3.out.lab; have s3 := s3_one hk; have n0_ := Aside0.mk (HBs.out.step hO (fun h => by cases h) s3); have n1_ := Aside0.mk (HB1.out.step hO (fun h => by cases h)); have n2_ := Aside0.mk (HB2.out.step hO (fun h => by cases h)); have n3_ := Aside0.mk (HB3.out.set (show wC_.heap[g3]? = some (.cells #[.int .i64 au, V1, .slice Az nz cz, .slice none 0 0] 26 (0, 0)) from hx)); have n4_ := Aside0.mk (HV1.out.step hO (fun h => by cases h) (fun h => by cases h)); have n5_ := Aside0.mk (HV2.out.step hO (fun h => by cases h) (fun h => by cases h)); have n6_ := Aside0.mk (FP.out.only hO (fun h => by cases h)); clear hO s3 HBs HB1 HB2 HB3 HV1 HV2 FP; have HBs := n0_; have HB1 := n1_; have HB2 := n2_; have HB3 := n3_; have HV1 := n4_; have HV2 := n5_; have FP := n6_; clear n0_ n1_ n2_ n3_ n4_ n5_ n6_; clear hx hk
          refine hK.out _ _ ?_
          clear hK K
          try simp only [Act.put, List.setIfInBounds_toArray, List.set_cons_zero, List.set_cons_succ]
          refine wpAnyLast_done (by kernel_rfl) ?_ _
          refine NoPanic.normal ?_
          try go_wp2
          go_roundw
          case rel => exact ⟨k4 + 1, _, _, by omega, by go_num, HBs, HB1, HB2, HB3, HV1, ⟨by rw [List.take_add_one, HXZ.out]; exact HV2.out⟩⟩
          case measure => simp [intOf]; omega
        · obtain rfl : k4 = lr.length := by omega
          rw [List.take_length] at HV2
          clear hlt4 hk4
          obtain ⟨VA1, vc1, e_, hc_, hf_⟩ := HV1.out.firm; have n0_ := Aside0.mk (HBs.out.frz (v := V1)); have n1_ := Aside0.mk (HB1.out.frz HV1.out (by decide)); have n2_ := Aside0.mk (HB2.out.frz HV1.out (by decide)); have n3_ := Aside0.mk (HB3.out.frz HV1.out (by decide)); have n4_ := Aside0.mk (HV2.out.frz HV1.out (by decide)); have n5_ := Aside0.mk hf_; have HVL1 := Aside0.mk hc_; generalize Rm.frz L0e V1 = L61 at n0_ n1_ n2_ n3_ n4_ n5_; subst e_; clear hc_ hf_ HBs HB1 HB2 HB3 HV1 HV2; have HBs := n0_; have HB1 := n1_; have HB2 := n2_; have HB3 := n3_; have HV2 := n4_; have F1 := n5_; clear n0_ n1_ n2_ n3_ n4_ n5_
          obtain ⟨VA2, vc2, e_, hc_, hf_⟩ := HV2.out.firm; have n0_ := Aside0.mk (HBs.out.frz (v := V2)); have n1_ := Aside0.mk (HB1.out.frz HV2.out (by decide)); have n2_ := Aside0.mk (HB2.out.frz HV2.out (by decide)); have n3_ := Aside0.mk (HB3.out.frz HV2.out (by decide)); have n4_ := Aside0.mk (F1.out.frz (v := V2)); have n5_ := Aside0.mk hf_; have HVL2 := Aside0.mk hc_; generalize Rm.frz L61 V2 = L62 at n0_ n1_ n2_ n3_ n4_ n5_; subst e_; clear hc_ hf_ HBs HB1 HB2 HB3 HV2 F1; have HBs := n0_; have HB1 := n1_; have HB2 := n2_; have HB3 := n3_; have F1 := n4_; have F2 := n5_; clear n0_ n1_ n2_ n3_ n4_ n5_
          go_wp2_with (first | ((with_reducible refine gate_dst (N := 100) rfl ?_); (refine val_list rfl (v := (.slice A2 lr.length c2)) ?hr ?_; (case hr => (have hc_ := (blk_cell HB1.out.blk 2).trans rfl; go_simp; try rfl)))) | ((with_reducible refine gate_dst (N := 117) rfl ?_); (refine val_list rfl (v := .slice none 0 0) ?hr ?_; (case hr => (have hc_ := (blk_cell HB3.out.blk 3).trans rfl; go_simp; try rfl)))) | ((with_reducible refine gate_dst (N := 119) rfl ?_); (refine val_list rfl (v := (.slice A3 lg.length c3)) ?hr ?_; (case hr => (have hc_ := (blk_cell HB1.out.blk 3).trans rfl; go_simp; try rfl)))) | ((with_reducible refine gate_builtin (b := .append) (xs := #[.tmp 117, .tmp 119]) rfl ?_); at_builtin; (refine app_nil_list k66 rfl (.tmp 117) (.tmp 119) 24 rfl 66 (.agg #[(.string ⟨#[]⟩), (.string ⟨#[]⟩)]) 32 Try.underlying24 info66 rfl (by decide) (by decide) rfl (fun _ _ _ _ h => h) A3 lg.length c3 rfl lg (came_now hp66 HBs.out.below (Nat.le_refl _) HR3.out) (by omega) (fun v1 w60_ ho hb => ?_); obtain ⟨VA5, vc5, e_, hc_, hf_⟩ := firm_own (L := L62) ho (fun _ _ _ _ h => h); subst e_; have HVL5 := Aside0.mk hc_; have hO := on_new (L := L62) 0 hb; have s3 := s3_below hb; have n0_ := Aside0.mk (HBs.out.step hO (fun h => h) s3); have n1_ := Aside0.mk (HB1.out.step hO (fun h => h)); have n2_ := Aside0.mk (HB2.out.step hO (fun h => h)); have n3_ := Aside0.mk (HB3.out.step hO (fun h => h)); have n4_ := Aside0.mk (F1.out.only hO (fun h => h)); have n5_ := Aside0.mk (F2.out.only hO (fun h => h)); have n6_ := Aside0.mk hf_; generalize lab1 L62 _ 0 = L63 at n0_ n1_ n2_ n3_ n4_ n5_ n6_; clear hO s3 HBs HB1 HB2 HB3 F1 F2; have HBs := n0_; have HB1 := n1_; have HB2 := n2_; have HB3 := n3_; have F1 := n4_; have F2 := n5_; have F5 := n6_; clear n0_ n1_ n2_ n3_ n4_ n5_ n6_; clear ho hb hc_ hf_)) | ((with_reducible refine gate_st (y := .tmp 120) rfl ?_); (refine st1_list rfl rfl g3 3 (.slice VA5 lg.length vc5) 26 _ HB3.out.blk ?hr ?_; (case hr => (have hc_ := (blk_cell HB3.out.blk 3).trans rfl; have hf_ := blk_frozen HB3.out.blk 3; go_simp; try rfl)); intro w61_ hx hk; have hO := on_one hk HB3.out.lab; have s3 := s3_one hk; have n0_ := Aside0.mk (HBs.out.step hO (fun h => by cases h) s3); have n1_ := Aside0.mk (HB1.out.step hO (fun h => by cases h)); have n2_ := Aside0.mk (HB2.out.step hO (fun h => by cases h)); have n3_ := Aside0.mk (HB3.out.set (show w61_.heap[g3]? = some (.cells #[.int .i64 au, .slice VA1 ls.length vc1, .slice VA2 lr.length vc2, .slice VA5 lg.length vc5] 26 (0, 0)) from hx)); have n4_ := Aside0.mk (F1.out.only hO (fun h => by cases h)); have n5_ := Aside0.mk (F2.out.only hO (fun h => by cases h)); have n6_ := Aside0.mk (F5.out.only hO (fun h => by cases h)); clear hO s3 HBs HB1 HB2 HB3 F1 F2 F5; have HBs := n0_; have HB1 := n1_; have HB2 := n2_; have HB3 := n3_; have F1 := n4_; have F2 := n5_; have F5 := n6_; clear n0_ n1_ n2_ n3_ n4_ n5_ n6_; clear hx hk)) | ((with_reducible refine gate_dst (N := 122) rfl ?_); (refine ev_load rfl 26 (.tmp 3) rfl g3 0 4 rfl 26 (0, 0) _ HB3.out.blk _ HuI.out rfl ([.int .i64 au, .slice VA1 ls.length vc1, .slice VA2 lr.length vc2, .slice VA5 lg.length vc5]) rfl (by kernel_rfl) ?_)) | ((with_reducible refine gate_st (y := .tmp 122) rfl ?_); (refine ev_store rfl rfl 26 (.tmp 2) (.tmp 122) rfl g2 0 rfl 26 _ _ HB2.out.blk rfl (by kernel_rfl) (Nat.le_of_ble_eq_true rfl) rfl ?_; intro w62_ hx hk; have hO := on_one hk HB2.out.lab; have s3 := s3_one hk; have n0_ := Aside0.mk (HBs.out.step hO (fun h => by cases h) s3); have n1_ := Aside0.mk (HB1.out.step hO (fun h => by cases h)); have n2_ := Aside0.mk (HB2.out.set (show w62_.heap[g2]? = some (.cells #[.int .i64 au, .slice VA1 ls.length vc1, .slice VA2 lr.length vc2, .slice VA5 lg.length vc5] 26 (0, 0)) from hx)); have n3_ := Aside0.mk (HB3.out.step hO (fun h => by cases h)); have n4_ := Aside0.mk (F1.out.only hO (fun h => by cases h)); have n5_ := Aside0.mk (F2.out.only hO (fun h => by cases h)); have n6_ := Aside0.mk (F5.out.only hO (fun h => by cases h)); clear hO s3 HBs HB1 HB2 HB3 F1 F2 F5; have HBs := n0_; have HB1 := n1_; have HB2 := n2_; have HB3 := n3_; have F1 := n4_; have F2 := n5_; have F5 := n6_; clear n0_ n1_ n2_ n3_ n4_ n5_ n6_; clear hx hk)))
          refine bodyPost_ret (results_cell_row rfl _ _ g2 26 #[.int .i64 au, .slice VA1 ls.length vc1, .slice VA2 lr.length vc2, .slice VA5 lg.length vc5] (0, 0) _ rfl HB2.out.blk HuI.out rfl (by kernel_rfl)) rfl ?_
          exact ⟨VA1, vc1, VA2, vc2, VA5, vc5, rfl, ⟨F1.out.now, HVL1.out⟩, ⟨F2.out.now, HVL2.out⟩, ⟨F5.out.now, HVL5.out⟩, HBs.out.below⟩
end Go.Proofs.Ythlhlgomnjeenab.Rm
