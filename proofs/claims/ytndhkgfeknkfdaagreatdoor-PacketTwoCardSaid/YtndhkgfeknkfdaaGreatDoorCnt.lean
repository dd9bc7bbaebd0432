/- (*Count).Packets of one packet; few; right. -/
import Derived.Test.YtndhkgfeknkfdaaGreatDoorFew
namespace Go.Proofs.YtndhkgfeknkfdaaGreatDoor.Pk
open Go.RowKit Go.Proofs.YtndhkgfeknkfdaaGreatDoorW.PrintWords Go.Proofs.YtndhkgfeknkfdaaGreatDoorW.PrintLast Go.Proofs.YtndhkgfeknkfdaaGreatDoorW.PrintMore Go.Proofs.YtndhkgfeknkfdaaGreatDoor.MPacketChecks
set_option linter.unusedVariables false
set_option linter.unusedSimpArgs false
set_option maxHeartbeats 8000000
set_option maxRecDepth 100000
theorem wpList_load_rowG {P : Program} {ops : Array Oper} {rest : List Oper} {o : Oper} {a : Act} {w : World} {Q : Exit → Act → World → Prop} (hw : Region.wanted o (yielded ops a.tmps) = true) (ty : TypeId) (x : Operand) (ho : o.op = .load ty x)
  (g : Nat) (hx : a.eval x = .pointer (some ⟨g, 0, none⟩)) (t : TypeId) (cs : Array Value) (fr : Nat × Nat) (d : TypeDesc) (hg : w.heap[g]? = some (.cells cs t fr))
  (hu : P.underlying ty = some d) (hd : (match d with | .struct _ | .array _ _ => true | _ => false) = true) (hi : (P.info? ty).map (·.size) = some cs.size)
  (h : wpList P ops Q rest (a.put o.dst (.agg cs)) w) : wpList P ops Q (o :: rest) a w :=
 wpList_step fun K hK => by rw [if_pos hw]; exact wp_load_row ty x ho g hx t cs fr d hg hu hd hi (hK _ _ h)
/-- what a packet's slices read as stays so while block g alone is written -/
structure Ft (w : World) (g : Nat) (A7 : Option Addr) (c7 : Nat) (l7 : List Int) (A13 : Option Addr) (c13 : Nat) (l13 : List Int) (A18 : Option Addr) (c18 : Nat) (l18 : List Int) (A22 : Option Addr) (c22 : Nat) (l22 : List S82) (A23 : Option Addr) (c23 : Nat) (l23 : List Int) (A24 : Option Addr) (c24 : Nat) (l24 : List ByteArray) : Prop where
 rd : ∀ W, KeepBut w W g none → Rd W A7 c7 l7 A13 c13 l13 A18 c18 l18 A22 c22 l22 A23 c23 l23 A24 c24 l24
 n7 : ∀ ad, A7 = some ad → 0 < l7.length → ad.block ≠ g
 n13 : ∀ ad, A13 = some ad → 0 < l13.length → ad.block ≠ g
 n18 : ∀ ad, A18 = some ad → 0 < l18.length → ad.block ≠ g
 n23 : ∀ ad, A23 = some ad → 0 < l23.length → ad.block ≠ g
 n24 : ∀ ad, A24 = some ad → 0 < l24.length → ad.block ≠ g
theorem Ft.of {A7 : Option Addr} {c7 : Nat} {l7 : List Int} {A13 : Option Addr} {c13 : Nat} {l13 : List Int} {A18 : Option Addr} {c18 : Nat} {l18 : List Int} {A22 : Option Addr} {c22 : Nat} {l22 : List S82} {A23 : Option Addr} {c23 : Nat} {l23 : List Int} {A24 : Option Addr} {c24 : Nat} {l24 : List ByteArray} {w0 w : World} {g : Nat} (h : Rd w0 A7 c7 l7 A13 c13 l13 A18 c18 l18 A22 c22 l22 A23 c23 l23 A24 c24 l24) (b : Below w0.heap.size w0 w) (hg : w0.heap.size ≤ g) : Ft w g A7 c7 l7 A13 c13 l13 A18 c18 l18 A22 c22 l22 A23 c23 l23 A24 c24 l24 where
 rd := fun W k => ⟨Kd.C_foot_came (Kd.heap_int _) h.r7 b hg W k, h.k7, Kd.C_foot_came (Kd.heap_int _) h.r13 b hg W k, h.k13, Kd.C_foot_came (Kd.heap_int _) h.r18 b hg W k, h.k18, Kd.C_foot_came (Kd.heap_iso _ (Kd.heap_pair Kd.heap_string (Kd.heap_int _))) h.r22 b hg W k, h.k22, Kd.C_foot_came (Kd.heap_int _) h.r23 b hg W k, h.k23, Kd.C_foot_came Kd.heap_string h.r24 b hg W k, h.k24⟩
 n7 := fun ad e hp => by subst e; have := Kd.C_lt h.r7 hp (by decide); omega
 n13 := fun ad e hp => by subst e; have := Kd.C_lt h.r13 hp (by decide); omega
 n18 := fun ad e hp => by subst e; have := Kd.C_lt h.r18 hp (by decide); omega
 n23 := fun ad e hp => by subst e; have := Kd.C_lt h.r23 hp (by decide); omega
 n24 := fun ad e hp => by subst e; have := Kd.C_lt h.r24 hp (by decide); omega
end Go.Proofs.YtndhkgfeknkfdaaGreatDoor.Pk
