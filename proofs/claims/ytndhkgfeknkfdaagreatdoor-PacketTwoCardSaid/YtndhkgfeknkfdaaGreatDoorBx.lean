/- What stays and what turns, by labels; events of drawn and plain regions. -/
import Derived.Test.YtndhkgfeknkfdaaGreatDoorRm
import Derived.Test.YtndhkgfeknkfdaaGreatDoorLn
import Derived.BigQuiet
import Derived.IntWalk
import Derived.Deep.QuietTactic
namespace Go.Proofs.YtndhkgfeknkfdaaGreatDoor.Rm
open Go.RowKit Go.Proofs.YtndhkgfeknkfdaaGreatDoorW.PrintWords Go.Proofs.YtndhkgfeknkfdaaGreatDoorW.PrintLast Go.Proofs.YtndhkgfeknkfdaaGreatDoorW.PrintMore Go.Proofs.YtndhkgfeknkfdaaGreatDoor.MPacketChecks
set_option linter.unusedVariables false
set_option linter.unusedSimpArgs false
set_option maxHeartbeats 4000000
set_option maxRecDepth 100000
structure Same3 (w W : World) : Prop where
 os : W.os = w.os
 tape : W.tape = w.tape
 output : W.output = w.output
/-- below w nothing has turned; it has label 0 -/
structure Bs (w : World) (L : Nat → Nat) (W : World) : Prop where
 low : ∀ k, k < w.heap.size → L k = 0
 below : Below w.heap.size w W
/-- a block that is known whole, with label t -/
structure Bk (g : Nat) (cs : Array Value) (T : TypeId) (t : Nat) (L : Nat → Nat) (W : World) : Prop where
 blk : W.heap[g]? = some (.cells cs T (0, 0))
 lab : L g = t
/-- a row of the call's own with label t, whose elements read firmly -/
structure Ow {α : Type} (d : Kd α) (te : TypeId) (base : Nat) (v : Value) (ps : List α) (t : Nat) (L : Nat → Nat) (W : World) : Prop where
 own : OwnRow (fun p c => Firm L W (fun W' => d.K W' p c)) te d.sz W base v ps
 lab : ∀ b, v.ownBlock = some b → L b = t
section
variable {α : Type} {d : Kd α} {te base g T t u : Nat} {L L' : Nat → Nat} {w W W' : World} {v v' : Value} {ps : List α} {cs cs' : Array Value} {X : Nat → Prop} {F : World → Prop}
theorem Bs.step (h : Bs w L W) (k : Only X L W L' W') (hX : ¬ X 0) (e : Same3 W W') : Bs w L' W' where
 low := fun i hi => (k.lab i (Nat.lt_of_lt_of_le hi h.below.size)).trans (h.low i hi)
 below := h.below.trans ⟨e.os, e.tape, e.output, k.size, fun i hi => k.keep i (Nat.lt_of_lt_of_le hi h.below.size) (by rw [h.low i hi]; exact hX)⟩
theorem Bk.step (h : Bk g cs T t L W) (k : Only X L W L' W') (hX : ¬ X t) : Bk g cs T t L' W' := ⟨(k.keep g (blk_lt h.blk) (by rw [h.lab]; exact hX)).trans h.blk, (k.lab g (blk_lt h.blk)).trans h.lab⟩
theorem Ow.step (h : Ow d te base v ps t L W) (k : Only X L W L' W') (hX : ¬ X t) (h0 : ¬ X 0) : Ow d te base v ps t L' W' := by
 obtain ⟨⟨inner, ho, hr⟩, hl⟩ := h
 exact ⟨⟨inner, own_move ho (fun b hb => k.keep b (own_lt ho b hb) (by rw [hl b hb]; exact hX)), hr.imp_ (fun _ _ hp => hp.only k h0)⟩, fun b hb => (k.lab b (own_lt ho b hb)).trans (hl b hb)⟩
theorem Ow.nil (d : Kd α) (te base t : Nat) (L : Nat → Nat) (W : World) : Ow d te base (.slice none 0 0) [] t L W := ⟨OwnRow.none_ _ _ _ _ _, fun b hb => by simp [Value.ownBlock] at hb⟩
/-- events -/
theorem on_new (t : Nat) (hb : Below W.heap.size W W') : Only No L W (lab1 L W.heap.size t) W' := only1 hb
theorem on_one (h : One W W' g) (hl : L g = t) : Only (Is t) L W L W' := h.only hl
theorem s3_below {B : Nat} (h : Below B W W') : Same3 W W' := ⟨h.os, h.tape, h.output⟩
theorem s3_one (h : One W W' g) : Same3 W W' := ⟨h.os, h.tape, h.output⟩
theorem Bk.new (t : Nat) (hg : g = W.heap.size) (h : W'.heap[g]? = some (.cells cs T (0, 0))) : Bk g cs T t (lab1 L W.heap.size t) W' := ⟨h, lab1_new (by omega)⟩
theorem Bk.set (h : Bk g cs T t L W) (hb : W'.heap[g]? = some (.cells cs' T (0, 0))) : Bk g cs' T t L W' := ⟨hb, h.lab⟩
/-- a row that is finished gets label 0 -/
def frz (L : Nat → Nat) (v : Value) : Nat → Nat := fun k => if v.ownBlock = some k then 0 else L k
theorem frz_soft : Soft L W (frz L v) W := ⟨Nat.le_refl _, fun k _ h0 => ⟨rfl, by unfold frz; split <;> first | rfl | exact h0⟩⟩
theorem Bs.frz (h : Bs w L W) : Bs w (frz L v) W := ⟨fun k hk => by unfold Rm.frz; split <;> first | rfl | exact h.low k hk, h.below⟩
theorem Bk.frz (h : Bk g cs T t L W) {e : TypeId} (ho : Ow d e base v ps u L W) (hne : u ≠ t) : Bk g cs T t (frz L v) W := ⟨h.blk, by
 unfold Rm.frz
 rw [if_neg (fun hv => hne (by rw [← ho.lab g hv, h.lab]))]
 exact h.lab⟩
theorem Ow.frz {β : Type} {d' : Kd β} {e' : TypeId} {b' : Nat} {qs : List β} {v' : Value} (h : Ow d te base v ps t L W) (ho : Ow d' e' b' v' qs u L W) (hne : u ≠ t) : Ow d te base v ps t (frz L v') W := by
 obtain ⟨⟨inner, h1, hr⟩, hl⟩ := h
 exact ⟨⟨inner, h1, hr.imp_ (fun _ _ hp => hp.step frz_soft)⟩, fun b hb => by
  unfold Rm.frz
  rw [if_neg (fun hv => hne (by rw [← ho.lab b hv, hl b hb]))]
  exact hl b hb⟩
theorem Firm.frz (h : Firm L W F) : Firm (frz L v) W F := h.step frz_soft
theorem firm_own {e : TypeId} {xs : List α} (h : OwnRow (d.K W') e d.sz W' W.heap.size v xs) (hK : ∀ (W1 W2 : World) x cs, d.K W1 x cs → d.K W2 x cs) : ∃ A c, v = .slice A xs.length c ∧ xs.length ≤ c ∧ Firm (lab1 L W.heap.size 0) W' (fun W2 => d.C W2 A xs.length xs) := by
 obtain ⟨A, c, e1, hc⟩ := h.slice_
 refine ⟨A, c, e1, hc, fun L' W2 hW => ?_⟩
 obtain ⟨inner, ho, hr⟩ := h
 have h2 : OwnRow (d.K W2) e d.sz W2 W.heap.size v xs := ⟨inner, own_move ho (fun b hb => (hW.2 b (own_lt ho b hb) (lab1_new (own_base ho b hb))).1), hr.imp_ (fun _ _ hp => hK _ _ _ _ hp)⟩
 obtain ⟨A', c', e', _, hr2⟩ := OwnRow.reads h2
 rw [e1] at e'
 injection e' with e3 e4 e5
 subst e3
 exact hr2
end
theorem reps_one2 {α : Type} (d : Kd α) {W : World} {ys : List α} {news : List Value} (hs0 : 0 < d.sz) (h : Reps (d.K W) d.sz ys news) : ∀ u ∈ news, u.oneCell' = true := by
 intro u hu
 obtain ⟨q, hq, rfl⟩ := List.mem_iff_getElem.1 hu
 have hql : q / d.sz < ys.length := by
  rw [Nat.div_lt_iff_lt_mul hs0, ← h.1]
  exact hq
 have hc := h.2 (q / d.sz) _ (List.getElem?_eq_getElem hql)
 refine d.K_one hc _ ?_
 rw [List.mem_iff_getElem?]
 refine ⟨q % d.sz, ?_⟩
 rw [List.getElem?_take, if_pos (Nat.mod_lt _ hs0), List.getElem?_drop, Nat.mul_comm, Nat.div_add_mod, List.getElem?_eq_getElem hq]
/-- append(nil, xs...) -/
theorem run_append_nil {P : Program} {α : Type} (d : Kd α) {W : World} (t ty e : TypeId) (z : Value) (bytes : Nat) (ht : P.underlying t = some (.slice e)) (hinfo : (P.info? e).map (fun i => (i.zero, i.size, i.bytes)) = some (some z, d.sz, bytes))
  (hz : z.cells.size = d.sz) (hs0 : 0 < d.sz) (hb0 : 0 < bytes) (hKW : ∀ (W1 W2 : World) x cs, d.K W1 x cs → d.K W2 x cs) (A : Option Addr) (m c : Nat) (ys : List α) (HY : d.C W A m ys) (hl : m * bytes ≤ 140737488355328) :
  ∃ v1 w1, (Builtin.append_ #[t, t] ty #[.slice none 0 0, .slice A m c]).run P W = .ok v1 w1 ∧ Below W.heap.size W w1 ∧ OwnRow (d.K w1) e d.sz w1 W.heap.size v1 ys := by
 obtain ⟨i0, hi, hzz⟩ := Option.map_eq_some_iff.1 hinfo
 simp only [Prod.mk.injEq] at hzz
 obtain ⟨hz0, hz1, hz2⟩ := hzz
 have hm : ys.length = m := HY.1
 have hlen : m ≤ 140737488355328 := Nat.le_trans (Nat.le_mul_of_pos_right _ hb0) hl
 rcases Nat.eq_zero_or_pos m with h0 | h0
 ·subst h0
  obtain rfl : ys = [] := List.eq_nil_of_length_eq_zero hm
  refine ⟨.slice none 0 0, W, ?_, Below.refl _ _, OwnRow.none_ _ _ _ _ _⟩
  rcases A with _ | a2
  ·simp [Builtin.append_, run_underlying ht, sizeOf, typeInfo, hi, Builtin.lenOf, Builtin.firstCells, storeCells]
  ·simp [Builtin.append_, run_underlying ht, sizeOf, typeInfo, hi, Builtin.lenOf, Builtin.firstCells, storeCells, loadCells, loadCellsFrom]
 ·obtain ⟨a2, rfl, _⟩ := HY.2.2 h0
  obtain ⟨news, hnr, hnc⟩ := ReadsRow.inner_ HY
  obtain ⟨v', w', hrun, r1, r2, r3, r4⟩ := run_append_own_at (P := P) W W.heap.size t ty e i0 z d.sz bytes ht hi hz0 hz1 hz2 hz hs0 (.slice none 0 0) 0 [] (own_nil _ _ _ _) a2 m c news (by rw [hnr.1, hm]) hnc (reps_one2 d hs0 hnr) (by simp only [maxLen]; omega) (by rw [Nat.zero_add]; exact hl) (Nat.le_refl _)
  exact ⟨v', w', hrun, pw_below_grown (Below.refl _ _) none (Nat.le_refl _) (by simpa [Value.ownBlock] using r2) (fun k hk => by cases hk) |>.mono (Nat.le_refl _), ⟨news, by rw [hm]; simpa using r1, hnr.imp_ (fun _ _ hp => hKW _ _ _ _ hp)⟩⟩
section
variable {P : Program} {ops : Array Oper} {rest : List Oper} {o : Oper} {a : Act} {w : World} {K : Act → World → Prop} {Q : Exit → Act → World → Prop} {E : Prop}
theorem quiet_event {v : Value} (hw : Region.wanted o (yielded ops a.tmps) = true) (hrun : (execOp a.eval o).run P w = .ok (.value v) w) (h : K (a.put o.dst v) w) : if Region.wanted o (yielded ops a.tmps) = true then Oper.wp P o a w K Q else E := by
 rw [if_pos hw]
 unfold Oper.wp
 rw [hrun]
 exact h
theorem val_event {v : Value} {w1 : World} (hw : Region.wanted o (yielded ops a.tmps) = true) (hrun : (execOp a.eval o).run P w = .ok (.value v) w1) (h : K (a.put o.dst v) w1) : if Region.wanted o (yielded ops a.tmps) = true then Oper.wp P o a w K Q else E := by
 rw [if_pos hw]
 unfold Oper.wp
 rw [hrun]
 exact h
theorem val_list {v : Value} (hgd : o.guard = none) (hrun : (execOp a.eval o).run P w = .ok (.value v) w) (h : wpList P ops Q rest (a.put o.dst v) w) : wpList P ops Q (o :: rest) a w :=
 wpList_plain hgd fun K hK => by
  unfold Oper.wp
  rw [hrun]
  exact hK _ _ h
theorem app_nil_list {α : Type} (d : Kd α) (hgd : o.guard = none) (s x : Operand) (t : TypeId) (hop : o.op = Op.call { callee := Callee.builtin Builtin.append, args := #[s, x], argTypes := #[t, t] }) (e : TypeId) (z : Value) (bytes : Nat) (ht : P.underlying t = some (.slice e)) (hinfo : (P.info? e).map (fun i => (i.zero, i.size, i.bytes)) = some (some z, d.sz, bytes))
  (hz : z.cells.size = d.sz) (hs0 : 0 < d.sz) (hb0 : 0 < bytes) (hs : a.eval s = .slice none 0 0) (hKW : ∀ (W1 W2 : World) x cs, d.K W1 x cs → d.K W2 x cs) (A : Option Addr) (m c : Nat) (hx : a.eval x = .slice A m c) (ys : List α) (HY : d.C w A m ys) (hl : m * bytes ≤ 140737488355328)
  (h : ∀ v1 w1, OwnRow (d.K w1) e d.sz w1 w.heap.size v1 ys → Below w.heap.size w w1 → wpList P ops Q rest (a.put o.dst v1) w1) : wpList P ops Q (o :: rest) a w :=
 wpList_plain hgd fun K hK => by
  obtain ⟨v1, w1, hrun, hb, ho⟩ := run_append_nil (P := P) d t o.type e z bytes ht hinfo hz hs0 hb0 hKW A m c ys HY hl
  unfold Oper.wp
  simp [execOp, hop, resolve, invoke, builtin, hs, hx, hrun, Result.andThen]
  exact hK _ _ (h v1 w1 ho hb)
end
section
variable {P : Program} {ops : Array Oper} {rest : List Oper} {o : Oper} {a : Act} {w : World} {K : Act → World → Prop} {Q : Exit → Act → World → Prop} {E : Prop}
theorem st1_list (hgd : o.guard = none) (hN : o.dst = none) (g j : Nat) (v : Value) (t : TypeId) (cs : Array Value) (hg : w.heap[g]? = some (.cells cs t (0, 0))) (hrun : (execOp a.eval o).run P w = .ok .skip (w.setCell ⟨g, j, none⟩ v))
  (h : ∀ w1, w1.heap[g]? = some (.cells (cs.setIfInBounds j v) t (0, 0)) → One w w1 g → wpList P ops Q rest a w1) : wpList P ops Q (o :: rest) a w :=
 wpList_plain hgd fun K hK => by
  unfold Oper.wp
  rw [hrun]
  show K (a.put o.dst undef) _
  rw [hN]
  exact hK _ _ (h _ (blk_set hg j v) (One.cell _ _ _ _))
end
section
variable {P : Program} {ops : Array Oper} {rest : List Oper} {o : Oper} {a : Act} {w : World} {K : Act → World → Prop} {Q : Exit → Act → World → Prop} {E : Prop}
theorem call_event {post : Ending → World → Prop} (hw : Region.wanted o (yielded ops a.tmps) = true) (fn : FuncId) (args : Array Value) (hrun : (execOp a.eval o).run P w = .ok (.enter fn args) w) (hc : Calls P fn args w post) (h : ∀ e w', post e w' → ∃ v, e = .returned v ∧ K (a.put o.dst v) w') : if Region.wanted o (yielded ops a.tmps) = true then Oper.wp P o a w K Q else E := by
 rw [if_pos hw]
 unfold Oper.wp
 rw [hrun, Oper.upon_enter]
 refine hc.mono fun e w'' hh => ?_
 obtain ⟨v, rfl, hk⟩ := h e w'' hh
 exact hk
end
/-- what stays as it is while a row grows: all of the call's start, and two blocks -/
structure S2 (w : World) (g5 : Nat) (c5 : Array Value) (T5 : TypeId) (g8 : Nat) (c8 : Array Value) (T8 : TypeId) (W : World) : Prop where
 low : Below w.heap.size w W
 b5 : W.heap[g5]? = some (.cells c5 T5 (0, 0))
 b8 : W.heap[g8]? = some (.cells c8 T8 (0, 0))
theorem S2.of {w W : World} {g5 g8 T5 T8 t5 t8 : Nat} {c5 c8 : Array Value} {L : Nat → Nat} (h : Bs w L W) (h5 : Bk g5 c5 T5 t5 L W) (h8 : Bk g8 c8 T8 t8 L W) : S2 w g5 c5 T5 g8 c8 T8 W := ⟨h.below, h5.blk, h8.blk⟩
theorem S2.alloc {w W : World} {g5 g8 T5 T8 : Nat} {c5 c8 : Array Value} (h : S2 w g5 c5 T5 g8 c8 T8 W) (ob : Obj) : S2 w g5 c5 T5 g8 c8 T8 (W.alloc ob) := ⟨h.low.alloc h.low.size ob, by rw [heap_alloc_old W ob (blk_lt h.b5)]; exact h.b5, by rw [heap_alloc_old W ob (blk_lt h.b8)]; exact h.b8⟩
theorem only_drew {X : Nat → Prop} {L : Nat → Nat} {w : World} : Only X L w L w.drew := ⟨Nat.le_refl _, fun _ _ _ => rfl, fun _ _ => rfl⟩
theorem s3_drew {w : World} : Same3 w w.drew := ⟨rfl, rfl, rfl⟩
section
variable {P : Program} {ops : Array Oper} {o : Oper} {a : Act} {w : World} {K : Act → World → Prop} {Q : Exit → Act → World → Prop} {E : Prop}
end
theorem room_nil {w W : World} {L : Nat → Nat} {g : Nat} (hs : Bs w L W) (h : Bk g #[.slice none 0 0, .slice none 0 0, .slice none 0 0, .slice none 0 0, .slice none 0 0, .slice none 0 0, .slice none 0 0, .slice none 0 0, .slice none 0 0, .slice none 0 0, .slice none 0 0, .slice none 0 0, .slice none 0 0, .slice none 0 0, .slice none 0 0, .slice none 0 0, .slice none 0 0, .slice none 0 0, .slice none 0 0, .slice none 0 0, .slice none 0 0, .slice none 0 0, .slice none 0 0, .slice none 0 0, .slice none 0 0, .slice none 0 0, .slice none 0 0, .slice none 0 0, .slice none 0 0, .slice none 0 0, .slice none 0 0, .slice none 0 0, .slice none 0 0, .slice none 0 0] 50 99 L W) (hge : w.heap.size ≤ g) : RoomAt L w.heap.size W g 0 #[.slice none 0 0, .slice none 0 0, .slice none 0 0, .slice none 0 0, .slice none 0 0, .slice none 0 0, .slice none 0 0, .slice none 0 0, .slice none 0 0, .slice none 0 0, .slice none 0 0, .slice none 0 0, .slice none 0 0, .slice none 0 0, .slice none 0 0, .slice none 0 0, .slice none 0 0, .slice none 0 0, .slice none 0 0, .slice none 0 0, .slice none 0 0, .slice none 0 0, .slice none 0 0, .slice none 0 0, .slice none 0 0, .slice none 0 0, .slice none 0 0, .slice none 0 0, .slice none 0 0, .slice none 0 0, .slice none 0 0, .slice none 0 0, .slice none 0 0, .slice none 0 0] (fun _ => []) where
 blk := h.blk
 lab := h.lab
 ge := hge
 low := hs.low
 size := rfl
 two := fun i hi => by
  refine ⟨.slice none 0 0, .slice none 0 0, ?_, ?_, Two.nil _ _ _ _ _ _ _⟩
  ·have hc : i = 0 ∨ i = 1 ∨ i = 2 ∨ i = 3 ∨ i = 4 ∨ i = 5 ∨ i = 6 ∨ i = 7 ∨ i = 8 ∨ i = 9 ∨ i = 10 ∨ i = 11 ∨ i = 12 ∨ i = 13 ∨ i = 14 ∨ i = 15 ∨ i = 16 := by omega
   rcases hc with rfl | rfl | rfl | rfl | rfl | rfl | rfl | rfl | rfl | rfl | rfl | rfl | rfl | rfl | rfl | rfl | rfl <;> rfl
  ·have hc : i = 0 ∨ i = 1 ∨ i = 2 ∨ i = 3 ∨ i = 4 ∨ i = 5 ∨ i = 6 ∨ i = 7 ∨ i = 8 ∨ i = 9 ∨ i = 10 ∨ i = 11 ∨ i = 12 ∨ i = 13 ∨ i = 14 ∨ i = 15 ∨ i = 16 := by omega
   rcases hc with rfl | rfl | rfl | rfl | rfl | rfl | rfl | rfl | rfl | rfl | rfl | rfl | rfl | rfl | rfl | rfl | rfl <;> rfl
end Go.Proofs.YtndhkgfeknkfdaaGreatDoor.Rm
