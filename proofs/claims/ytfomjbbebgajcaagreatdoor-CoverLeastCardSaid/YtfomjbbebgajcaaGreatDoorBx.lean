/- What stays and what turns, by labels; events of drawn and plain regions. -/
import Derived.Test.YtfomjbbebgajcaaGreatDoorRm
import Derived.Test.YtfomjbbebgajcaaGreatDoorLy
import Derived.BigQuiet
import Derived.IntWalk
import Derived.Deep.QuietTactic
namespace Go.Proofs.YtfomjbbebgajcaaGreatDoor.Rm
open Go.RowKit Go.Proofs.YtfomjbbebgajcaaGreatDoorW.PrintWords Go.Proofs.YtfomjbbebgajcaaGreatDoorW.PrintLast Go.Proofs.YtfomjbbebgajcaaGreatDoorW.PrintMore Go.Proofs.YtfomjbbebgajcaaGreatDoor.MCoverLeast
set_option linter.unusedVariables false
set_option linter.unusedSimpArgs false
set_option maxHeartbeats 4000000
set_option maxRecDepth 100000
structure Same3 (w W : World) : Prop where
 os : W.os = w.os
 tape : W.tape = w.tape
 output : W.output = w.output
/-- below w nothing has turned; it has label 0 -/
structure Bs (w : World) (L : Nat → Nat) (W : World) : Prop where
 low : ∀ k, k < w.heap.size → L k = 0
 below : Below w.heap.size w W
/-- a block that is known whole, with label t -/
structure Bk (g : Nat) (cs : Array Value) (T : TypeId) (t : Nat) (L : Nat → Nat) (W : World) : Prop where
 blk : W.heap[g]? = some (.cells cs T (0, 0))
 lab : L g = t
/-- a row of the call's own with label t, whose elements read firmly -/
structure Ow {α : Type} (d : Kd α) (te : TypeId) (base : Nat) (v : Value) (ps : List α) (t : Nat) (L : Nat → Nat) (W : World) : Prop where
 own : OwnRow (fun p c => Firm L W (fun W' => d.K W' p c)) te d.sz W base v ps
 lab : ∀ b, v.ownBlock = some b → L b = t
section
variable {α : Type} {d : Kd α} {te base g T t u : Nat} {L L' : Nat → Nat} {w W W' : World} {v v' : Value} {ps : List α} {cs cs' : Array Value} {X : Nat → Prop} {F : World → Prop}
/-- events -/
theorem on_new (t : Nat) (hb : Below W.heap.size W W') : Only No L W (lab1 L W.heap.size t) W' := only1 hb
theorem on_one (h : One W W' g) (hl : L g = t) : Only (Is t) L W L W' := h.only hl
theorem s3_below {B : Nat} (h : Below B W W') : Same3 W W' := ⟨h.os, h.tape, h.output⟩
theorem s3_one (h : One W W' g) : Same3 W W' := ⟨h.os, h.tape, h.output⟩
/-- a row that is finished gets label 0 -/
def frz (L : Nat → Nat) (v : Value) : Nat → Nat := fun k => if v.ownBlock = some k then 0 else L k
/-- a row made by a call, with label 0 -/
theorem firm_R {e : TypeId} {ok : Nat → Prop} {xs : List α} (h : d.R e W' W.heap.size ok v xs) (hK : ∀ (W1 W2 : World) x cs, d.K W1 x cs → d.K W2 x cs) : ∃ A c, v = .slice A xs.length c ∧ xs.length ≤ c ∧ Firm (lab1 L W.heap.size 0) W' (fun W2 => d.C W2 A xs.length xs) := by
 obtain ⟨_, inner, ho, hr⟩ := h
 obtain ⟨A, c, e1, hc⟩ := OwnRow.slice_ (R := d.M W' W.heap.size (fun k => ok k ∧ some k ≠ v.ownBlock)) ⟨inner, ho, hr⟩
 refine ⟨A, c, e1, hc, fun L' W2 hW => ?_⟩
 have h2 : OwnRow (d.K W2) e d.sz W2 W.heap.size v xs := ⟨inner, own_move ho (fun b hb => (hW.2 b (own_lt ho b hb) (lab1_new (own_base ho b hb))).1), hr.imp_ (fun _ _ hp => hK _ _ _ _ (d.K_of_M hp))⟩
 obtain ⟨A', c', e', _, hr2⟩ := OwnRow.reads h2
 rw [e1] at e'
 injection e' with e3 e4 e5
 subst e3
 exact hr2
theorem firm_own {e : TypeId} {xs : List α} (h : OwnRow (d.K W') e d.sz W' W.heap.size v xs) (hK : ∀ (W1 W2 : World) x cs, d.K W1 x cs → d.K W2 x cs) : ∃ A c, v = .slice A xs.length c ∧ xs.length ≤ c ∧ Firm (lab1 L W.heap.size 0) W' (fun W2 => d.C W2 A xs.length xs) := by
 obtain ⟨A, c, e1, hc⟩ := h.slice_
 refine ⟨A, c, e1, hc, fun L' W2 hW => ?_⟩
 obtain ⟨inner, ho, hr⟩ := h
 have h2 : OwnRow (d.K W2) e d.sz W2 W.heap.size v xs := ⟨inner, own_move ho (fun b hb => (hW.2 b (own_lt ho b hb) (lab1_new (own_base ho b hb))).1), hr.imp_ (fun _ _ hp => hK _ _ _ _ hp)⟩
 obtain ⟨A', c', e', _, hr2⟩ := OwnRow.reads h2
 rw [e1] at e'
 injection e' with e3 e4 e5
 subst e3
 exact hr2
end
section
variable {P : Program} {ops : Array Oper} {rest : List Oper} {o : Oper} {a : Act} {w : World} {K : Act → World → Prop} {Q : Exit → Act → World → Prop} {E : Prop}
theorem val_event {v : Value} {w1 : World} (hw : Region.wanted o (yielded ops a.tmps) = true) (hrun : (execOp a.eval o).run P w = .ok (.value v) w1) (h : K (a.put o.dst v) w1) : if Region.wanted o (yielded ops a.tmps) = true then Oper.wp P o a w K Q else E := by
 rw [if_pos hw]
 unfold Oper.wp
 rw [hrun]
 exact h
theorem val_list {v : Value} (hgd : o.guard = none) (hrun : (execOp a.eval o).run P w = .ok (.value v) w) (h : wpList P ops Q rest (a.put o.dst v) w) : wpList P ops Q (o :: rest) a w :=
 wpList_plain hgd fun K hK => by
  unfold Oper.wp
  rw [hrun]
  exact hK _ _ h
end
section
variable {P : Program} {ops : Array Oper} {rest : List Oper} {o : Oper} {a : Act} {w : World} {K : Act → World → Prop} {Q : Exit → Act → World → Prop} {E : Prop}
end
section
variable {P : Program} {ops : Array Oper} {rest : List Oper} {o : Oper} {a : Act} {w : World} {K : Act → World → Prop} {Q : Exit → Act → World → Prop} {E : Prop}
theorem call_event {post : Ending → World → Prop} (hw : Region.wanted o (yielded ops a.tmps) = true) (fn : FuncId) (args : Array Value) (hrun : (execOp a.eval o).run P w = .ok (.enter fn args) w) (hc : Calls P fn args w post) (h : ∀ e w', post e w' → ∃ v, e = .returned v ∧ K (a.put o.dst v) w') : if Region.wanted o (yielded ops a.tmps) = true then Oper.wp P o a w K Q else E := by
 rw [if_pos hw]
 unfold Oper.wp
 rw [hrun, Oper.upon_enter]
 refine hc.mono fun e w'' hh => ?_
 obtain ⟨v, rfl, hk⟩ := h e w'' hh
 exact hk
end
/-- what stays as it is while a row grows: all of the call's start, and two blocks -/
structure S2 (w : World) (g5 : Nat) (c5 : Array Value) (T5 : TypeId) (g8 : Nat) (c8 : Array Value) (T8 : TypeId) (W : World) : Prop where
 low : Below w.heap.size w W
 b5 : W.heap[g5]? = some (.cells c5 T5 (0, 0))
 b8 : W.heap[g8]? = some (.cells c8 T8 (0, 0))
theorem only_drew {X : Nat → Prop} {L : Nat → Nat} {w : World} : Only X L w L w.drew := ⟨Nat.le_refl _, fun _ _ _ => rfl, fun _ _ => rfl⟩
theorem s3_drew {w : World} : Same3 w w.drew := ⟨rfl, rfl, rfl⟩
section
variable {P : Program} {ops : Array Oper} {o : Oper} {a : Act} {w : World} {K : Act → World → Prop} {Q : Exit → Act → World → Prop} {E : Prop}
end
theorem room_nil {w W : World} {L : Nat → Nat} {g : Nat} (hs : Bs w L W) (h : Bk g #[.slice none 0 0, .slice none 0 0, .slice none 0 0, .slice none 0 0, .slice none 0 0, .slice none 0 0, .slice none 0 0, .slice none 0 0, .slice none 0 0, .slice none 0 0, .slice none 0 0, .slice none 0 0, .slice none 0 0, .slice none 0 0, .slice none 0 0, .slice none 0 0, .slice none 0 0, .slice none 0 0, .slice none 0 0, .slice none 0 0, .slice none 0 0, .slice none 0 0, .slice none 0 0, .slice none 0 0, .slice none 0 0, .slice none 0 0, .slice none 0 0, .slice none 0 0, .slice none 0 0, .slice none 0 0, .slice none 0 0, .slice none 0 0, .slice none 0 0, .slice none 0 0] 47 99 L W) (hge : w.heap.size ≤ g) : RoomAt L w.heap.size W g 0 #[.slice none 0 0, .slice none 0 0, .slice none 0 0, .slice none 0 0, .slice none 0 0, .slice none 0 0, .slice none 0 0, .slice none 0 0, .slice none 0 0, .slice none 0 0, .slice none 0 0, .slice none 0 0, .slice none 0 0, .slice none 0 0, .slice none 0 0, .slice none 0 0, .slice none 0 0, .slice none 0 0, .slice none 0 0, .slice none 0 0, .slice none 0 0, .slice none 0 0, .slice none 0 0, .slice none 0 0, .slice none 0 0, .slice none 0 0, .slice none 0 0, .slice none 0 0, .slice none 0 0, .slice none 0 0, .slice none 0 0, .slice none 0 0, .slice none 0 0, .slice none 0 0] (fun _ => []) where
 blk := h.blk
 lab := h.lab
 ge := hge
 low := hs.low
 size := rfl
 two := fun i hi => by
  refine ⟨.slice none 0 0, .slice none 0 0, ?_, ?_, Two.nil _ _ _ _ _ _ _⟩
  ·have hc : i = 0 ∨ i = 1 ∨ i = 2 ∨ i = 3 ∨ i = 4 ∨ i = 5 ∨ i = 6 ∨ i = 7 ∨ i = 8 ∨ i = 9 ∨ i = 10 ∨ i = 11 ∨ i = 12 ∨ i = 13 ∨ i = 14 ∨ i = 15 ∨ i = 16 := by omega
   rcases hc with rfl | rfl | rfl | rfl | rfl | rfl | rfl | rfl | rfl | rfl | rfl | rfl | rfl | rfl | rfl | rfl | rfl <;> rfl
  ·have hc : i = 0 ∨ i = 1 ∨ i = 2 ∨ i = 3 ∨ i = 4 ∨ i = 5 ∨ i = 6 ∨ i = 7 ∨ i = 8 ∨ i = 9 ∨ i = 10 ∨ i = 11 ∨ i = 12 ∨ i = 13 ∨ i = 14 ∨ i = 15 ∨ i = 16 := by omega
   rcases hc with rfl | rfl | rfl | rfl | rfl | rfl | rfl | rfl | rfl | rfl | rfl | rfl | rfl | rfl | rfl | rfl | rfl <;> rfl
end Go.Proofs.YtfomjbbebgajcaaGreatDoor.Rm
