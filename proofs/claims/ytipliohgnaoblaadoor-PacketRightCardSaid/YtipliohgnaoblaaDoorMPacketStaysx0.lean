-- Printed by a program of this session's own (wip/mkprint.py): contracts of the functions that a law uses. Not trusted: Lean checks it.
import Derived.Test.YtipliohgnaoblaaDoorProg
import Derived.Test.YtipliohgnaoblaaDoorFil
import Derived.WalkMore
import Derived.Below
import Derived.Deep.Draws
import Derived.Deep.AppendLies
import Derived.Maps.AppendAt
import Derived.OwnWalk
import Derived.Laws.BytesArg
import Derived.Laws.MakeOwn
import Derived.Laws.OwnMore
import Derived.Deep.OwnRows
import Derived.Tactics
import Derived.Lib.ConvBytes
import Derived.Laws.Slices
import Derived.WalkKit
import Derived.KernelRfl
import Derived.RowKit3
import Derived.Deep.LoopGhost
import Derived.Deep.QuietTactic
import Derived.BigQuiet
import Derived.WideLaws
import Derived.Deep.DeepCutAuto
import Derived.Deep.CutBlock
import Derived.Deep.RegionHeld3
import Derived.Laws.Rows
import Derived.Lib.AppendStr
import Derived.ArgAppend
import Derived.Laws.IdiomCopy
import Derived.OrdersHeld
import Derived.Laws.BitsLemmas
import Derived.RowKit
import Derived.Test.YtipliohgnaoblaaDoorWWords
import Derived.Test.YtipliohgnaoblaaDoorWLast
import Derived.Test.YtipliohgnaoblaaDoorWTab
import Derived.Test.YtipliohgnaoblaaDoorWFour
import Derived.Test.YtipliohgnaoblaaDoorWQPut
import Derived.Test.YtipliohgnaoblaaDoorWApart
import Derived.Test.YtipliohgnaoblaaDoorWArr
import Derived.Test.YtipliohgnaoblaaDoorWZeros
import Derived.Test.YtipliohgnaoblaaDoorWFoot
import Derived.Test.YtipliohgnaoblaaDoorWKept
import Derived.Test.YtipliohgnaoblaaDoorWShare
import Derived.Test.YtipliohgnaoblaaDoorWN
import Derived.Test.YtipliohgnaoblaaDoorWFootNe
import Derived.Test.YtipliohgnaoblaaDoorWAt
import Derived.Test.YtipliohgnaoblaaDoorWEqStruct
import Derived.Test.YtipliohgnaoblaaDoorWRepsOne
import Derived.Test.YtipliohgnaoblaaDoorWInv
import Derived.Test.YtipliohgnaoblaaDoorWInvWords
import Derived.Test.YtipliohgnaoblaaDoorWGuard
import Derived.Test.YtipliohgnaoblaaDoorWNEv
import Derived.Test.YtipliohgnaoblaaDoorWMore
namespace Go.Proofs.YtipliohgnaoblaaDoor.MPacketStays
open Go.RowKit Go.Proofs.YtipliohgnaoblaaDoor.Giv Go.Proofs.YtipliohgnaoblaaDoorW.PrintWords Go.Proofs.YtipliohgnaoblaaDoorW.PrintLast Go.Proofs.YtipliohgnaoblaaDoorW.PrintMore
attribute [local go_sem] max2_int min2_int max_two min_two max_three min_three max_four min_four   -- for this text's walks alone
set_option linter.unusedVariables false
set_option linter.unusedSimpArgs false



def errW : Option Int → Value
  | none => .nilIface
  | some c => .iface 0 (.int .i64 c)
theorem errW_none : errW none = .nilIface := rfl
theorem errW_some (c : Int) : errW (some c) = .iface 0 (.int .i64 c) := rfl

-- the values' own types
/-! #### struct type 45 -/
structure S45 where
  f0 : ByteArray
  f1 : Int
def z45 : S45 := ⟨(⟨#[]⟩ : ByteArray), (0 : Int)⟩
def k45 : Kd S45 := Kd.iso (Kd.pair Kd.string (Kd.int .i64)) (fun x : S45 => (x.f0, x.f1))
theorem k45_open {w : World} {x : S45} {cs : List Value} (h : k45.K w x cs) : cs = [.string x.f0, .int .i64 x.f1] := by
  obtain ⟨_, _, rfl, rfl, rfl⟩ := h
  exact rfl
theorem k45_openM {w : World} {base : Nat} {ok : Nat → Prop} {x : S45} {cs : List Value} (h : k45.M w base ok x cs) : cs = [.string x.f0, .int .i64 x.f1] := by
  obtain ⟨_, _, rfl, rfl, rfl⟩ := h
  exact rfl
theorem k45_mk (w : World) (x : S45)  : k45.K w x [.string x.f0, .int .i64 x.f1] := ⟨[.string x.f0], [.int .i64 x.f1], rfl, rfl, rfl⟩
theorem k45_mkM (w : World) (base : Nat) (ok : Nat → Prop) (x : S45)  : k45.M w base ok x [.string x.f0, .int .i64 x.f1] := ⟨[.string x.f0], [.int .i64 x.f1], rfl, rfl, rfl⟩
theorem k45_mkF (W : World) (ok : Nat → Prop) (x : S45) : Kd.FK k45 W ok x [.string x.f0, .int .i64 x.f1] := fun W2 _ => k45_mk W2 x
def rd_T45 (xs : List S45) (i : Int) : S45 := xs.getD i.toNat z45
theorem at_T45 {w : World} {A : Option Addr} {n : Nat} {xs : List S45} (h : Kd.C k45 w A n xs) (i : Int) (h0 : 0 ≤ i) (h1 : i < n) : ∃ ad , A = some ad ∧ w.cell? (ad.add (i.toNat * 2)) = some (.string (rd_T45 xs i).f0) ∧ w.cell? ⟨(ad.add (i.toNat * 2)).block, (ad.add (i.toNat * 2)).off + 1, none⟩ = some (.int .i64 (rd_T45 xs i).f1) := by
  obtain ⟨ad, c, e, _, hK, hc0⟩ := Kd.C_get h z45 i h0 h1
  have hc : ∀ j u, c[j]? = some u → w.cell? (ad.add (i.toNat * 2 + j)) = some u := hc0
  obtain rfl := k45_open hK
  exact ⟨ad, e, hc 0 _ rfl, by rw [← add_field _ _ 1 (by omega)]; exact hc 1 _ rfl⟩

def rd_L5 (xs : List (List Int)) (i : Int) : (List Int) := xs.getD i.toNat ([] : List Int)
theorem at_L5 {w : World} {A : Option Addr} {n : Nat} {xs : List (List Int)} (h : Kd.C (Kd.slice 5 (Kd.int .u8)) w A n xs) (i : Int) (h0 : 0 ≤ i) (h1 : i < n) : ∃ ad A0 c0, A = some ad ∧ w.cell? (ad.add i.toNat) = some (.slice A0 (rd_L5 xs i).length c0) ∧ (rd_L5 xs i).length ≤ c0 ∧ (Kd.int .u8).C w A0 (rd_L5 xs i).length (rd_L5 xs i) := by
  obtain ⟨ad, c, e, _, hK, hc0⟩ := Kd.C_get h ([] : List Int) i h0 h1
  have hc : ∀ j u, c[j]? = some u → w.cell? (ad.add (i.toNat * 1 + j)) = some u := hc0
  obtain ⟨A0, c0, rfl, l0, g0⟩ := hK
  exact ⟨ad, A0, c0, e, by have hq := hc 0 _ rfl; rwa [Nat.mul_one, Nat.add_zero] at hq, l0, g0⟩

/-! #### struct type 24 -/
structure S24 where
  f0 : ByteArray
  f1 : (List Int)
  f2 : Int
  f3 : Bool
def z24 : S24 := ⟨(⟨#[]⟩ : ByteArray), ([] : List Int), (0 : Int), false⟩
def k24 : Kd S24 := Kd.iso (Kd.pair Kd.string (Kd.pair (Kd.slice 5 (Kd.int .u8)) (Kd.pair (Kd.int .i64) Kd.bool))) (fun x : S24 => (x.f0, x.f1, x.f2, x.f3))
theorem k24_open {w : World} {x : S24} {cs : List Value} (h : k24.K w x cs) : ∃ A1 c1, cs = [.string x.f0, .slice A1 x.f1.length c1, .int .i64 x.f2, .bool x.f3] ∧ x.f1.length ≤ c1 ∧ (Kd.int .u8).C w A1 x.f1.length x.f1 := by
  obtain ⟨_, _, rfl, rfl, ⟨_, _, rfl, ⟨A1, c1, rfl, l1, g1⟩, ⟨_, _, rfl, rfl, rfl⟩⟩⟩ := h
  exact ⟨A1, c1, rfl, l1, g1⟩
theorem k24_openM {w : World} {base : Nat} {ok : Nat → Prop} {x : S24} {cs : List Value} (h : k24.M w base ok x cs) : ∃ v1, cs = [.string x.f0, v1, .int .i64 x.f2, .bool x.f3] ∧ (Kd.int .u8).R 5 w base ok v1 x.f1 := by
  obtain ⟨_, _, rfl, rfl, ⟨_, _, rfl, ⟨v1, rfl, g1⟩, ⟨_, _, rfl, rfl, rfl⟩⟩⟩ := h
  exact ⟨v1, rfl, g1⟩
theorem k24_mk (w : World) (x : S24) {A1 : Option Addr} {c1 : Nat} (l1 : x.f1.length ≤ c1) (g1 : (Kd.int .u8).C w A1 x.f1.length x.f1) : k24.K w x [.string x.f0, .slice A1 x.f1.length c1, .int .i64 x.f2, .bool x.f3] := ⟨[.string x.f0], [.slice A1 x.f1.length c1, .int .i64 x.f2, .bool x.f3], rfl, rfl, ⟨[.slice A1 x.f1.length c1], [.int .i64 x.f2, .bool x.f3], rfl, ⟨A1, c1, rfl, l1, g1⟩, ⟨[.int .i64 x.f2], [.bool x.f3], rfl, rfl, rfl⟩⟩⟩
theorem k24_mkM (w : World) (base : Nat) (ok : Nat → Prop) (x : S24) {v1 : Value} (g1 : (Kd.int .u8).R 5 w base ok v1 x.f1) : k24.M w base ok x [.string x.f0, v1, .int .i64 x.f2, .bool x.f3] := ⟨[.string x.f0], [v1, .int .i64 x.f2, .bool x.f3], rfl, rfl, ⟨[v1], [.int .i64 x.f2, .bool x.f3], rfl, ⟨v1, rfl, g1⟩, ⟨[.int .i64 x.f2], [.bool x.f3], rfl, rfl, rfl⟩⟩⟩
theorem k24_openF {W : World} {ok : Nat → Prop} {x : S24} {cs : List Value} (h : Kd.FK k24 W ok x cs) : ∃ A1 c1, cs = [.string x.f0, .slice A1 x.f1.length c1, .int .i64 x.f2, .bool x.f3] ∧ x.f1.length ≤ c1 ∧ Kd.F (Kd.int .u8) W ok A1 x.f1.length x.f1 := by
  obtain ⟨A1, c1, rfl, l1, _⟩ := k24_open (Kd.FK_now h)
  exact ⟨A1, c1, rfl, l1, (fun W' hW => by obtain ⟨A1_, c1_, he, l1_, g1_⟩ := k24_open (h W' hW); injection (Option.some.inj (show some (Value.slice A1 x.f1.length c1) = some (Value.slice A1_ x.f1.length c1_) from congrArg (fun l => l[1]?) he)) with ha_ _ _; rw [ha_]; exact g1_)⟩
theorem k24_mkF (W : World) (ok : Nat → Prop) (x : S24) {A1 : Option Addr} {c1 : Nat} (l1 : x.f1.length ≤ c1) (g1 : Kd.F (Kd.int .u8) W ok A1 x.f1.length x.f1) : Kd.FK k24 W ok x [.string x.f0, .slice A1 x.f1.length c1, .int .i64 x.f2, .bool x.f3] := fun W2 hW => k24_mk W2 x l1 (g1 W2 hW)
def rd_T24 (xs : List S24) (i : Int) : S24 := xs.getD i.toNat z24
theorem at_T24 {w : World} {A : Option Addr} {n : Nat} {xs : List S24} (h : Kd.C k24 w A n xs) (i : Int) (h0 : 0 ≤ i) (h1 : i < n) : ∃ ad A1 c1, A = some ad ∧ w.cell? (ad.add (i.toNat * 4)) = some (.string (rd_T24 xs i).f0) ∧ w.cell? ⟨(ad.add (i.toNat * 4)).block, (ad.add (i.toNat * 4)).off + 1, none⟩ = some (.slice A1 (rd_T24 xs i).f1.length c1) ∧ w.cell? ⟨(ad.add (i.toNat * 4)).block, (ad.add (i.toNat * 4)).off + 2, none⟩ = some (.int .i64 (rd_T24 xs i).f2) ∧ w.cell? ⟨(ad.add (i.toNat * 4)).block, (ad.add (i.toNat * 4)).off + 3, none⟩ = some (.bool (rd_T24 xs i).f3) ∧ (rd_T24 xs i).f1.length ≤ c1 ∧ (Kd.int .u8).C w A1 (rd_T24 xs i).f1.length (rd_T24 xs i).f1 := by
  obtain ⟨ad, c, e, _, hK, hc0⟩ := Kd.C_get h z24 i h0 h1
  have hc : ∀ j u, c[j]? = some u → w.cell? (ad.add (i.toNat * 4 + j)) = some u := hc0
  obtain ⟨A1, c1, rfl, l1, g1⟩ := k24_open hK
  exact ⟨ad, A1, c1, e, hc 0 _ rfl, by rw [← add_field _ _ 1 (by omega)]; exact hc 1 _ rfl, by rw [← add_field _ _ 2 (by omega)]; exact hc 2 _ rfl, by rw [← add_field _ _ 3 (by omega)]; exact hc 3 _ rfl, l1, g1⟩

def rd_L7 (xs : List (List S45)) (i : Int) : (List S45) := xs.getD i.toNat ([] : List S45)
theorem at_L7 {w : World} {A : Option Addr} {n : Nat} {xs : List (List S45)} (h : Kd.C (Kd.slice 45 k45) w A n xs) (i : Int) (h0 : 0 ≤ i) (h1 : i < n) : ∃ ad A0 c0, A = some ad ∧ w.cell? (ad.add i.toNat) = some (.slice A0 (rd_L7 xs i).length c0) ∧ (rd_L7 xs i).length ≤ c0 ∧ k45.C w A0 (rd_L7 xs i).length (rd_L7 xs i) := by
  obtain ⟨ad, c, e, _, hK, hc0⟩ := Kd.C_get h ([] : List S45) i h0 h1
  have hc : ∀ j u, c[j]? = some u → w.cell? (ad.add (i.toNat * 1 + j)) = some u := hc0
  obtain ⟨A0, c0, rfl, l0, g0⟩ := hK
  exact ⟨ad, A0, c0, e, by have hq := hc 0 _ rfl; rwa [Nat.mul_one, Nat.add_zero] at hq, l0, g0⟩

def rd_L8 (xs : List (List Int)) (i : Int) : (List Int) := xs.getD i.toNat ([] : List Int)
theorem at_L8 {w : World} {A : Option Addr} {n : Nat} {xs : List (List Int)} (h : Kd.C (Kd.slice 3 (Kd.int .i64)) w A n xs) (i : Int) (h0 : 0 ≤ i) (h1 : i < n) : ∃ ad A0 c0, A = some ad ∧ w.cell? (ad.add i.toNat) = some (.slice A0 (rd_L8 xs i).length c0) ∧ (rd_L8 xs i).length ≤ c0 ∧ (Kd.int .i64).C w A0 (rd_L8 xs i).length (rd_L8 xs i) := by
  obtain ⟨ad, c, e, _, hK, hc0⟩ := Kd.C_get h ([] : List Int) i h0 h1
  have hc : ∀ j u, c[j]? = some u → w.cell? (ad.add (i.toNat * 1 + j)) = some u := hc0
  obtain ⟨A0, c0, rfl, l0, g0⟩ := hK
  exact ⟨ad, A0, c0, e, by have hq := hc 0 _ rfl; rwa [Nat.mul_one, Nat.add_zero] at hq, l0, g0⟩

def rd_L9 (xs : List (List ByteArray)) (i : Int) : (List ByteArray) := xs.getD i.toNat ([] : List ByteArray)
theorem at_L9 {w : World} {A : Option Addr} {n : Nat} {xs : List (List ByteArray)} (h : Kd.C (Kd.slice 9 Kd.string) w A n xs) (i : Int) (h0 : 0 ≤ i) (h1 : i < n) : ∃ ad A0 c0, A = some ad ∧ w.cell? (ad.add i.toNat) = some (.slice A0 (rd_L9 xs i).length c0) ∧ (rd_L9 xs i).length ≤ c0 ∧ Kd.string.C w A0 (rd_L9 xs i).length (rd_L9 xs i) := by
  obtain ⟨ad, c, e, _, hK, hc0⟩ := Kd.C_get h ([] : List ByteArray) i h0 h1
  have hc : ∀ j u, c[j]? = some u → w.cell? (ad.add (i.toNat * 1 + j)) = some u := hc0
  obtain ⟨A0, c0, rfl, l0, g0⟩ := hK
  exact ⟨ad, A0, c0, e, by have hq := hc 0 _ rfl; rwa [Nat.mul_one, Nat.add_zero] at hq, l0, g0⟩

/-! #### struct type 29 -/
structure S29 where
  f0 : Int
  f1 : Int
  f2 : Bool
  f3 : Int
  f4 : ByteArray
  f5 : Bool
  f6 : S24
  f7 : Bool
  f8 : ByteArray
  f9 : Bool
  f10 : (List Int)
  f11 : Bool
  f12 : Int
  f13 : Bool
  f14 : S24
  f15 : Int
  f16 : (List S45)
  f17 : (List Int)
  f18 : (List ByteArray)
def z29 : S29 := ⟨(0 : Int), (0 : Int), false, (0 : Int), (⟨#[]⟩ : ByteArray), false, z24, false, (⟨#[]⟩ : ByteArray), false, ([] : List Int), false, (0 : Int), false, z24, (0 : Int), ([] : List S45), ([] : List Int), ([] : List ByteArray)⟩
def k29 : Kd S29 := Kd.iso (Kd.pair (Kd.int .i64) (Kd.pair (Kd.int .i64) (Kd.pair Kd.bool (Kd.pair (Kd.int .i64) (Kd.pair Kd.string (Kd.pair Kd.bool (Kd.pair k24 (Kd.pair Kd.bool (Kd.pair Kd.string (Kd.pair Kd.bool (Kd.pair (Kd.slice 5 (Kd.int .u8)) (Kd.pair Kd.bool (Kd.pair (Kd.int .i64) (Kd.pair Kd.bool (Kd.pair k24 (Kd.pair (Kd.int .i64) (Kd.pair (Kd.slice 45 k45) (Kd.pair (Kd.slice 3 (Kd.int .i64)) (Kd.slice 9 Kd.string))))))))))))))))))) (fun x : S29 => (x.f0, x.f1, x.f2, x.f3, x.f4, x.f5, x.f6, x.f7, x.f8, x.f9, x.f10, x.f11, x.f12, x.f13, x.f14, x.f15, x.f16, x.f17, x.f18))
theorem k29_open {w : World} {x : S29} {cs : List Value} (h : k29.K w x cs) : ∃ A7 c7 A13 c13 A18 c18 A22 c22 A23 c23 A24 c24, cs = [.int .i64 x.f0, .int .i64 x.f1, .bool x.f2, .int .i64 x.f3, .string x.f4, .bool x.f5, .string x.f6.f0, .slice A7 x.f6.f1.length c7, .int .i64 x.f6.f2, .bool x.f6.f3, .bool x.f7, .string x.f8, .bool x.f9, .slice A13 x.f10.length c13, .bool x.f11, .int .i64 x.f12, .bool x.f13, .string x.f14.f0, .slice A18 x.f14.f1.length c18, .int .i64 x.f14.f2, .bool x.f14.f3, .int .i64 x.f15, .slice A22 x.f16.length c22, .slice A23 x.f17.length c23, .slice A24 x.f18.length c24] ∧ x.f6.f1.length ≤ c7 ∧ (Kd.int .u8).C w A7 x.f6.f1.length x.f6.f1 ∧ x.f10.length ≤ c13 ∧ (Kd.int .u8).C w A13 x.f10.length x.f10 ∧ x.f14.f1.length ≤ c18 ∧ (Kd.int .u8).C w A18 x.f14.f1.length x.f14.f1 ∧ x.f16.length ≤ c22 ∧ k45.C w A22 x.f16.length x.f16 ∧ x.f17.length ≤ c23 ∧ (Kd.int .i64).C w A23 x.f17.length x.f17 ∧ x.f18.length ≤ c24 ∧ Kd.string.C w A24 x.f18.length x.f18 := by
  obtain ⟨_, _, rfl, rfl, ⟨_, _, rfl, rfl, ⟨_, _, rfl, rfl, ⟨_, _, rfl, rfl, ⟨_, _, rfl, rfl, ⟨_, _, rfl, rfl, ⟨_, _, rfl, s6, ⟨_, _, rfl, rfl, ⟨_, _, rfl, rfl, ⟨_, _, rfl, rfl, ⟨_, _, rfl, ⟨A13, c13, rfl, l13, g13⟩, ⟨_, _, rfl, rfl, ⟨_, _, rfl, rfl, ⟨_, _, rfl, rfl, ⟨_, _, rfl, s17, ⟨_, _, rfl, rfl, ⟨_, _, rfl, ⟨A22, c22, rfl, l22, g22⟩, ⟨_, _, rfl, ⟨A23, c23, rfl, l23, g23⟩, ⟨A24, c24, rfl, l24, g24⟩⟩⟩⟩⟩⟩⟩⟩⟩⟩⟩⟩⟩⟩⟩⟩⟩⟩⟩ := h
  obtain ⟨A7, c7, rfl, l7, g7⟩ := k24_open s6
  obtain ⟨A18, c18, rfl, l18, g18⟩ := k24_open s17
  exact ⟨A7, c7, A13, c13, A18, c18, A22, c22, A23, c23, A24, c24, rfl, l7, g7, l13, g13, l18, g18, l22, g22, l23, g23, l24, g24⟩
theorem k29_openM {w : World} {base : Nat} {ok : Nat → Prop} {x : S29} {cs : List Value} (h : k29.M w base ok x cs) : ∃ v7 v13 v18 v22 v23 v24, cs = [.int .i64 x.f0, .int .i64 x.f1, .bool x.f2, .int .i64 x.f3, .string x.f4, .bool x.f5, .string x.f6.f0, v7, .int .i64 x.f6.f2, .bool x.f6.f3, .bool x.f7, .string x.f8, .bool x.f9, v13, .bool x.f11, .int .i64 x.f12, .bool x.f13, .string x.f14.f0, v18, .int .i64 x.f14.f2, .bool x.f14.f3, .int .i64 x.f15, v22, v23, v24] ∧ (Kd.int .u8).R 5 w base ok v7 x.f6.f1 ∧ (Kd.int .u8).R 5 w base ok v13 x.f10 ∧ (Kd.int .u8).R 5 w base ok v18 x.f14.f1 ∧ k45.R 45 w base ok v22 x.f16 ∧ (Kd.int .i64).R 3 w base ok v23 x.f17 ∧ Kd.string.R 9 w base ok v24 x.f18 := by
  obtain ⟨_, _, rfl, rfl, ⟨_, _, rfl, rfl, ⟨_, _, rfl, rfl, ⟨_, _, rfl, rfl, ⟨_, _, rfl, rfl, ⟨_, _, rfl, rfl, ⟨_, _, rfl, s6, ⟨_, _, rfl, rfl, ⟨_, _, rfl, rfl, ⟨_, _, rfl, rfl, ⟨_, _, rfl, ⟨v13, rfl, g13⟩, ⟨_, _, rfl, rfl, ⟨_, _, rfl, rfl, ⟨_, _, rfl, rfl, ⟨_, _, rfl, s17, ⟨_, _, rfl, rfl, ⟨_, _, rfl, ⟨v22, rfl, g22⟩, ⟨_, _, rfl, ⟨v23, rfl, g23⟩, ⟨v24, rfl, g24⟩⟩⟩⟩⟩⟩⟩⟩⟩⟩⟩⟩⟩⟩⟩⟩⟩⟩⟩ := h
  obtain ⟨v7, rfl, g7⟩ := k24_openM s6
  obtain ⟨v18, rfl, g18⟩ := k24_openM s17
  exact ⟨v7, v13, v18, v22, v23, v24, rfl, g7, g13, g18, g22, g23, g24⟩
theorem k29_mk (w : World) (x : S29) {A7 : Option Addr} {c7 : Nat} (l7 : x.f6.f1.length ≤ c7) (g7 : (Kd.int .u8).C w A7 x.f6.f1.length x.f6.f1) {A13 : Option Addr} {c13 : Nat} (l13 : x.f10.length ≤ c13) (g13 : (Kd.int .u8).C w A13 x.f10.length x.f10) {A18 : Option Addr} {c18 : Nat} (l18 : x.f14.f1.length ≤ c18) (g18 : (Kd.int .u8).C w A18 x.f14.f1.length x.f14.f1) {A22 : Option Addr} {c22 : Nat} (l22 : x.f16.length ≤ c22) (g22 : k45.C w A22 x.f16.length x.f16) {A23 : Option Addr} {c23 : Nat} (l23 : x.f17.length ≤ c23) (g23 : (Kd.int .i64).C w A23 x.f17.length x.f17) {A24 : Option Addr} {c24 : Nat} (l24 : x.f18.length ≤ c24) (g24 : Kd.string.C w A24 x.f18.length x.f18) : k29.K w x [.int .i64 x.f0, .int .i64 x.f1, .bool x.f2, .int .i64 x.f3, .string x.f4, .bool x.f5, .string x.f6.f0, .slice A7 x.f6.f1.length c7, .int .i64 x.f6.f2, .bool x.f6.f3, .bool x.f7, .string x.f8, .bool x.f9, .slice A13 x.f10.length c13, .bool x.f11, .int .i64 x.f12, .bool x.f13, .string x.f14.f0, .slice A18 x.f14.f1.length c18, .int .i64 x.f14.f2, .bool x.f14.f3, .int .i64 x.f15, .slice A22 x.f16.length c22, .slice A23 x.f17.length c23, .slice A24 x.f18.length c24] := ⟨[.int .i64 x.f0], [.int .i64 x.f1, .bool x.f2, .int .i64 x.f3, .string x.f4, .bool x.f5, .string x.f6.f0, .slice A7 x.f6.f1.length c7, .int .i64 x.f6.f2, .bool x.f6.f3, .bool x.f7, .string x.f8, .bool x.f9, .slice A13 x.f10.length c13, .bool x.f11, .int .i64 x.f12, .bool x.f13, .string x.f14.f0, .slice A18 x.f14.f1.length c18, .int .i64 x.f14.f2, .bool x.f14.f3, .int .i64 x.f15, .slice A22 x.f16.length c22, .slice A23 x.f17.length c23, .slice A24 x.f18.length c24], rfl, rfl, ⟨[.int .i64 x.f1], [.bool x.f2, .int .i64 x.f3, .string x.f4, .bool x.f5, .string x.f6.f0, .slice A7 x.f6.f1.length c7, .int .i64 x.f6.f2, .bool x.f6.f3, .bool x.f7, .string x.f8, .bool x.f9, .slice A13 x.f10.length c13, .bool x.f11, .int .i64 x.f12, .bool x.f13, .string x.f14.f0, .slice A18 x.f14.f1.length c18, .int .i64 x.f14.f2, .bool x.f14.f3, .int .i64 x.f15, .slice A22 x.f16.length c22, .slice A23 x.f17.length c23, .slice A24 x.f18.length c24], rfl, rfl, ⟨[.bool x.f2], [.int .i64 x.f3, .string x.f4, .bool x.f5, .string x.f6.f0, .slice A7 x.f6.f1.length c7, .int .i64 x.f6.f2, .bool x.f6.f3, .bool x.f7, .string x.f8, .bool x.f9, .slice A13 x.f10.length c13, .bool x.f11, .int .i64 x.f12, .bool x.f13, .string x.f14.f0, .slice A18 x.f14.f1.length c18, .int .i64 x.f14.f2, .bool x.f14.f3, .int .i64 x.f15, .slice A22 x.f16.length c22, .slice A23 x.f17.length c23, .slice A24 x.f18.length c24], rfl, rfl, ⟨[.int .i64 x.f3], [.string x.f4, .bool x.f5, .string x.f6.f0, .slice A7 x.f6.f1.length c7, .int .i64 x.f6.f2, .bool x.f6.f3, .bool x.f7, .string x.f8, .bool x.f9, .slice A13 x.f10.length c13, .bool x.f11, .int .i64 x.f12, .bool x.f13, .string x.f14.f0, .slice A18 x.f14.f1.length c18, .int .i64 x.f14.f2, .bool x.f14.f3, .int .i64 x.f15, .slice A22 x.f16.length c22, .slice A23 x.f17.length c23, .slice A24 x.f18.length c24], rfl, rfl, ⟨[.string x.f4], [.bool x.f5, .string x.f6.f0, .slice A7 x.f6.f1.length c7, .int .i64 x.f6.f2, .bool x.f6.f3, .bool x.f7, .string x.f8, .bool x.f9, .slice A13 x.f10.length c13, .bool x.f11, .int .i64 x.f12, .bool x.f13, .string x.f14.f0, .slice A18 x.f14.f1.length c18, .int .i64 x.f14.f2, .bool x.f14.f3, .int .i64 x.f15, .slice A22 x.f16.length c22, .slice A23 x.f17.length c23, .slice A24 x.f18.length c24], rfl, rfl, ⟨[.bool x.f5], [.string x.f6.f0, .slice A7 x.f6.f1.length c7, .int .i64 x.f6.f2, .bool x.f6.f3, .bool x.f7, .string x.f8, .bool x.f9, .slice A13 x.f10.length c13, .bool x.f11, .int .i64 x.f12, .bool x.f13, .string x.f14.f0, .slice A18 x.f14.f1.length c18, .int .i64 x.f14.f2, .bool x.f14.f3, .int .i64 x.f15, .slice A22 x.f16.length c22, .slice A23 x.f17.length c23, .slice A24 x.f18.length c24], rfl, rfl, ⟨[.string x.f6.f0, .slice A7 x.f6.f1.length c7, .int .i64 x.f6.f2, .bool x.f6.f3], [.bool x.f7, .string x.f8, .bool x.f9, .slice A13 x.f10.length c13, .bool x.f11, .int .i64 x.f12, .bool x.f13, .string x.f14.f0, .slice A18 x.f14.f1.length c18, .int .i64 x.f14.f2, .bool x.f14.f3, .int .i64 x.f15, .slice A22 x.f16.length c22, .slice A23 x.f17.length c23, .slice A24 x.f18.length c24], rfl, (k24_mk w x.f6 l7 g7), ⟨[.bool x.f7], [.string x.f8, .bool x.f9, .slice A13 x.f10.length c13, .bool x.f11, .int .i64 x.f12, .bool x.f13, .string x.f14.f0, .slice A18 x.f14.f1.length c18, .int .i64 x.f14.f2, .bool x.f14.f3, .int .i64 x.f15, .slice A22 x.f16.length c22, .slice A23 x.f17.length c23, .slice A24 x.f18.length c24], rfl, rfl, ⟨[.string x.f8], [.bool x.f9, .slice A13 x.f10.length c13, .bool x.f11, .int .i64 x.f12, .bool x.f13, .string x.f14.f0, .slice A18 x.f14.f1.length c18, .int .i64 x.f14.f2, .bool x.f14.f3, .int .i64 x.f15, .slice A22 x.f16.length c22, .slice A23 x.f17.length c23, .slice A24 x.f18.length c24], rfl, rfl, ⟨[.bool x.f9], [.slice A13 x.f10.length c13, .bool x.f11, .int .i64 x.f12, .bool x.f13, .string x.f14.f0, .slice A18 x.f14.f1.length c18, .int .i64 x.f14.f2, .bool x.f14.f3, .int .i64 x.f15, .slice A22 x.f16.length c22, .slice A23 x.f17.length c23, .slice A24 x.f18.length c24], rfl, rfl, ⟨[.slice A13 x.f10.length c13], [.bool x.f11, .int .i64 x.f12, .bool x.f13, .string x.f14.f0, .slice A18 x.f14.f1.length c18, .int .i64 x.f14.f2, .bool x.f14.f3, .int .i64 x.f15, .slice A22 x.f16.length c22, .slice A23 x.f17.length c23, .slice A24 x.f18.length c24], rfl, ⟨A13, c13, rfl, l13, g13⟩, ⟨[.bool x.f11], [.int .i64 x.f12, .bool x.f13, .string x.f14.f0, .slice A18 x.f14.f1.length c18, .int .i64 x.f14.f2, .bool x.f14.f3, .int .i64 x.f15, .slice A22 x.f16.length c22, .slice A23 x.f17.length c23, .slice A24 x.f18.length c24], rfl, rfl, ⟨[.int .i64 x.f12], [.bool x.f13, .string x.f14.f0, .slice A18 x.f14.f1.length c18, .int .i64 x.f14.f2, .bool x.f14.f3, .int .i64 x.f15, .slice A22 x.f16.length c22, .slice A23 x.f17.length c23, .slice A24 x.f18.length c24], rfl, rfl, ⟨[.bool x.f13], [.string x.f14.f0, .slice A18 x.f14.f1.length c18, .int .i64 x.f14.f2, .bool x.f14.f3, .int .i64 x.f15, .slice A22 x.f16.length c22, .slice A23 x.f17.length c23, .slice A24 x.f18.length c24], rfl, rfl, ⟨[.string x.f14.f0, .slice A18 x.f14.f1.length c18, .int .i64 x.f14.f2, .bool x.f14.f3], [.int .i64 x.f15, .slice A22 x.f16.length c22, .slice A23 x.f17.length c23, .slice A24 x.f18.length c24], rfl, (k24_mk w x.f14 l18 g18), ⟨[.int .i64 x.f15], [.slice A22 x.f16.length c22, .slice A23 x.f17.length c23, .slice A24 x.f18.length c24], rfl, rfl, ⟨[.slice A22 x.f16.length c22], [.slice A23 x.f17.length c23, .slice A24 x.f18.length c24], rfl, ⟨A22, c22, rfl, l22, g22⟩, ⟨[.slice A23 x.f17.length c23], [.slice A24 x.f18.length c24], rfl, ⟨A23, c23, rfl, l23, g23⟩, ⟨A24, c24, rfl, l24, g24⟩⟩⟩⟩⟩⟩⟩⟩⟩⟩⟩⟩⟩⟩⟩⟩⟩⟩⟩
theorem k29_mkM (w : World) (base : Nat) (ok : Nat → Prop) (x : S29) {v7 : Value} (g7 : (Kd.int .u8).R 5 w base ok v7 x.f6.f1) {v13 : Value} (g13 : (Kd.int .u8).R 5 w base ok v13 x.f10) {v18 : Value} (g18 : (Kd.int .u8).R 5 w base ok v18 x.f14.f1) {v22 : Value} (g22 : k45.R 45 w base ok v22 x.f16) {v23 : Value} (g23 : (Kd.int .i64).R 3 w base ok v23 x.f17) {v24 : Value} (g24 : Kd.string.R 9 w base ok v24 x.f18) : k29.M w base ok x [.int .i64 x.f0, .int .i64 x.f1, .bool x.f2, .int .i64 x.f3, .string x.f4, .bool x.f5, .string x.f6.f0, v7, .int .i64 x.f6.f2, .bool x.f6.f3, .bool x.f7, .string x.f8, .bool x.f9, v13, .bool x.f11, .int .i64 x.f12, .bool x.f13, .string x.f14.f0, v18, .int .i64 x.f14.f2, .bool x.f14.f3, .int .i64 x.f15, v22, v23, v24] := ⟨[.int .i64 x.f0], [.int .i64 x.f1, .bool x.f2, .int .i64 x.f3, .string x.f4, .bool x.f5, .string x.f6.f0, v7, .int .i64 x.f6.f2, .bool x.f6.f3, .bool x.f7, .string x.f8, .bool x.f9, v13, .bool x.f11, .int .i64 x.f12, .bool x.f13, .string x.f14.f0, v18, .int .i64 x.f14.f2, .bool x.f14.f3, .int .i64 x.f15, v22, v23, v24], rfl, rfl, ⟨[.int .i64 x.f1], [.bool x.f2, .int .i64 x.f3, .string x.f4, .bool x.f5, .string x.f6.f0, v7, .int .i64 x.f6.f2, .bool x.f6.f3, .bool x.f7, .string x.f8, .bool x.f9, v13, .bool x.f11, .int .i64 x.f12, .bool x.f13, .string x.f14.f0, v18, .int .i64 x.f14.f2, .bool x.f14.f3, .int .i64 x.f15, v22, v23, v24], rfl, rfl, ⟨[.bool x.f2], [.int .i64 x.f3, .string x.f4, .bool x.f5, .string x.f6.f0, v7, .int .i64 x.f6.f2, .bool x.f6.f3, .bool x.f7, .string x.f8, .bool x.f9, v13, .bool x.f11, .int .i64 x.f12, .bool x.f13, .string x.f14.f0, v18, .int .i64 x.f14.f2, .bool x.f14.f3, .int .i64 x.f15, v22, v23, v24], rfl, rfl, ⟨[.int .i64 x.f3], [.string x.f4, .bool x.f5, .string x.f6.f0, v7, .int .i64 x.f6.f2, .bool x.f6.f3, .bool x.f7, .string x.f8, .bool x.f9, v13, .bool x.f11, .int .i64 x.f12, .bool x.f13, .string x.f14.f0, v18, .int .i64 x.f14.f2, .bool x.f14.f3, .int .i64 x.f15, v22, v23, v24], rfl, rfl, ⟨[.string x.f4], [.bool x.f5, .string x.f6.f0, v7, .int .i64 x.f6.f2, .bool x.f6.f3, .bool x.f7, .string x.f8, .bool x.f9, v13, .bool x.f11, .int .i64 x.f12, .bool x.f13, .string x.f14.f0, v18, .int .i64 x.f14.f2, .bool x.f14.f3, .int .i64 x.f15, v22, v23, v24], rfl, rfl, ⟨[.bool x.f5], [.string x.f6.f0, v7, .int .i64 x.f6.f2, .bool x.f6.f3, .bool x.f7, .string x.f8, .bool x.f9, v13, .bool x.f11, .int .i64 x.f12, .bool x.f13, .string x.f14.f0, v18, .int .i64 x.f14.f2, .bool x.f14.f3, .int .i64 x.f15, v22, v23, v24], rfl, rfl, ⟨[.string x.f6.f0, v7, .int .i64 x.f6.f2, .bool x.f6.f3], [.bool x.f7, .string x.f8, .bool x.f9, v13, .bool x.f11, .int .i64 x.f12, .bool x.f13, .string x.f14.f0, v18, .int .i64 x.f14.f2, .bool x.f14.f3, .int .i64 x.f15, v22, v23, v24], rfl, (k24_mkM w base ok x.f6 g7), ⟨[.bool x.f7], [.string x.f8, .bool x.f9, v13, .bool x.f11, .int .i64 x.f12, .bool x.f13, .string x.f14.f0, v18, .int .i64 x.f14.f2, .bool x.f14.f3, .int .i64 x.f15, v22, v23, v24], rfl, rfl, ⟨[.string x.f8], [.bool x.f9, v13, .bool x.f11, .int .i64 x.f12, .bool x.f13, .string x.f14.f0, v18, .int .i64 x.f14.f2, .bool x.f14.f3, .int .i64 x.f15, v22, v23, v24], rfl, rfl, ⟨[.bool x.f9], [v13, .bool x.f11, .int .i64 x.f12, .bool x.f13, .string x.f14.f0, v18, .int .i64 x.f14.f2, .bool x.f14.f3, .int .i64 x.f15, v22, v23, v24], rfl, rfl, ⟨[v13], [.bool x.f11, .int .i64 x.f12, .bool x.f13, .string x.f14.f0, v18, .int .i64 x.f14.f2, .bool x.f14.f3, .int .i64 x.f15, v22, v23, v24], rfl, ⟨v13, rfl, g13⟩, ⟨[.bool x.f11], [.int .i64 x.f12, .bool x.f13, .string x.f14.f0, v18, .int .i64 x.f14.f2, .bool x.f14.f3, .int .i64 x.f15, v22, v23, v24], rfl, rfl, ⟨[.int .i64 x.f12], [.bool x.f13, .string x.f14.f0, v18, .int .i64 x.f14.f2, .bool x.f14.f3, .int .i64 x.f15, v22, v23, v24], rfl, rfl, ⟨[.bool x.f13], [.string x.f14.f0, v18, .int .i64 x.f14.f2, .bool x.f14.f3, .int .i64 x.f15, v22, v23, v24], rfl, rfl, ⟨[.string x.f14.f0, v18, .int .i64 x.f14.f2, .bool x.f14.f3], [.int .i64 x.f15, v22, v23, v24], rfl, (k24_mkM w base ok x.f14 g18), ⟨[.int .i64 x.f15], [v22, v23, v24], rfl, rfl, ⟨[v22], [v23, v24], rfl, ⟨v22, rfl, g22⟩, ⟨[v23], [v24], rfl, ⟨v23, rfl, g23⟩, ⟨v24, rfl, g24⟩⟩⟩⟩⟩⟩⟩⟩⟩⟩⟩⟩⟩⟩⟩⟩⟩⟩⟩
theorem k29_openF {W : World} {ok : Nat → Prop} {x : S29} {cs : List Value} (h : Kd.FK k29 W ok x cs) : ∃ A7 c7 A13 c13 A18 c18 A22 c22 A23 c23 A24 c24, cs = [.int .i64 x.f0, .int .i64 x.f1, .bool x.f2, .int .i64 x.f3, .string x.f4, .bool x.f5, .string x.f6.f0, .slice A7 x.f6.f1.length c7, .int .i64 x.f6.f2, .bool x.f6.f3, .bool x.f7, .string x.f8, .bool x.f9, .slice A13 x.f10.length c13, .bool x.f11, .int .i64 x.f12, .bool x.f13, .string x.f14.f0, .slice A18 x.f14.f1.length c18, .int .i64 x.f14.f2, .bool x.f14.f3, .int .i64 x.f15, .slice A22 x.f16.length c22, .slice A23 x.f17.length c23, .slice A24 x.f18.length c24] ∧ x.f6.f1.length ≤ c7 ∧ Kd.F (Kd.int .u8) W ok A7 x.f6.f1.length x.f6.f1 ∧ x.f10.length ≤ c13 ∧ Kd.F (Kd.int .u8) W ok A13 x.f10.length x.f10 ∧ x.f14.f1.length ≤ c18 ∧ Kd.F (Kd.int .u8) W ok A18 x.f14.f1.length x.f14.f1 ∧ x.f16.length ≤ c22 ∧ Kd.F k45 W ok A22 x.f16.length x.f16 ∧ x.f17.length ≤ c23 ∧ Kd.F (Kd.int .i64) W ok A23 x.f17.length x.f17 ∧ x.f18.length ≤ c24 ∧ Kd.F Kd.string W ok A24 x.f18.length x.f18 := by
  obtain ⟨A7, c7, A13, c13, A18, c18, A22, c22, A23, c23, A24, c24, rfl, l7, _, l13, _, l18, _, l22, _, l23, _, l24, _⟩ := k29_open (Kd.FK_now h)
  exact ⟨A7, c7, A13, c13, A18, c18, A22, c22, A23, c23, A24, c24, rfl, l7, (fun W' hW => by obtain ⟨A7_, c7_, A13_, c13_, A18_, c18_, A22_, c22_, A23_, c23_, A24_, c24_, he, l7_, g7_, l13_, g13_, l18_, g18_, l22_, g22_, l23_, g23_, l24_, g24_⟩ := k29_open (h W' hW); injection (Option.some.inj (show some (Value.slice A7 x.f6.f1.length c7) = some (Value.slice A7_ x.f6.f1.length c7_) from congrArg (fun l => l[7]?) he)) with ha_ _ _; rw [ha_]; exact g7_), l13, (fun W' hW => by obtain ⟨A7_, c7_, A13_, c13_, A18_, c18_, A22_, c22_, A23_, c23_, A24_, c24_, he, l7_, g7_, l13_, g13_, l18_, g18_, l22_, g22_, l23_, g23_, l24_, g24_⟩ := k29_open (h W' hW); injection (Option.some.inj (show some (Value.slice A13 x.f10.length c13) = some (Value.slice A13_ x.f10.length c13_) from congrArg (fun l => l[13]?) he)) with ha_ _ _; rw [ha_]; exact g13_), l18, (fun W' hW => by obtain ⟨A7_, c7_, A13_, c13_, A18_, c18_, A22_, c22_, A23_, c23_, A24_, c24_, he, l7_, g7_, l13_, g13_, l18_, g18_, l22_, g22_, l23_, g23_, l24_, g24_⟩ := k29_open (h W' hW); injection (Option.some.inj (show some (Value.slice A18 x.f14.f1.length c18) = some (Value.slice A18_ x.f14.f1.length c18_) from congrArg (fun l => l[18]?) he)) with ha_ _ _; rw [ha_]; exact g18_), l22, (fun W' hW => by obtain ⟨A7_, c7_, A13_, c13_, A18_, c18_, A22_, c22_, A23_, c23_, A24_, c24_, he, l7_, g7_, l13_, g13_, l18_, g18_, l22_, g22_, l23_, g23_, l24_, g24_⟩ := k29_open (h W' hW); injection (Option.some.inj (show some (Value.slice A22 x.f16.length c22) = some (Value.slice A22_ x.f16.length c22_) from congrArg (fun l => l[22]?) he)) with ha_ _ _; rw [ha_]; exact g22_), l23, (fun W' hW => by obtain ⟨A7_, c7_, A13_, c13_, A18_, c18_, A22_, c22_, A23_, c23_, A24_, c24_, he, l7_, g7_, l13_, g13_, l18_, g18_, l22_, g22_, l23_, g23_, l24_, g24_⟩ := k29_open (h W' hW); injection (Option.some.inj (show some (Value.slice A23 x.f17.length c23) = some (Value.slice A23_ x.f17.length c23_) from congrArg (fun l => l[23]?) he)) with ha_ _ _; rw [ha_]; exact g23_), l24, (fun W' hW => by obtain ⟨A7_, c7_, A13_, c13_, A18_, c18_, A22_, c22_, A23_, c23_, A24_, c24_, he, l7_, g7_, l13_, g13_, l18_, g18_, l22_, g22_, l23_, g23_, l24_, g24_⟩ := k29_open (h W' hW); injection (Option.some.inj (show some (Value.slice A24 x.f18.length c24) = some (Value.slice A24_ x.f18.length c24_) from congrArg (fun l => l[24]?) he)) with ha_ _ _; rw [ha_]; exact g24_)⟩
theorem k29_mkF (W : World) (ok : Nat → Prop) (x : S29) {A7 : Option Addr} {c7 : Nat} (l7 : x.f6.f1.length ≤ c7) (g7 : Kd.F (Kd.int .u8) W ok A7 x.f6.f1.length x.f6.f1) {A13 : Option Addr} {c13 : Nat} (l13 : x.f10.length ≤ c13) (g13 : Kd.F (Kd.int .u8) W ok A13 x.f10.length x.f10) {A18 : Option Addr} {c18 : Nat} (l18 : x.f14.f1.length ≤ c18) (g18 : Kd.F (Kd.int .u8) W ok A18 x.f14.f1.length x.f14.f1) {A22 : Option Addr} {c22 : Nat} (l22 : x.f16.length ≤ c22) (g22 : Kd.F k45 W ok A22 x.f16.length x.f16) {A23 : Option Addr} {c23 : Nat} (l23 : x.f17.length ≤ c23) (g23 : Kd.F (Kd.int .i64) W ok A23 x.f17.length x.f17) {A24 : Option Addr} {c24 : Nat} (l24 : x.f18.length ≤ c24) (g24 : Kd.F Kd.string W ok A24 x.f18.length x.f18) : Kd.FK k29 W ok x [.int .i64 x.f0, .int .i64 x.f1, .bool x.f2, .int .i64 x.f3, .string x.f4, .bool x.f5, .string x.f6.f0, .slice A7 x.f6.f1.length c7, .int .i64 x.f6.f2, .bool x.f6.f3, .bool x.f7, .string x.f8, .bool x.f9, .slice A13 x.f10.length c13, .bool x.f11, .int .i64 x.f12, .bool x.f13, .string x.f14.f0, .slice A18 x.f14.f1.length c18, .int .i64 x.f14.f2, .bool x.f14.f3, .int .i64 x.f15, .slice A22 x.f16.length c22, .slice A23 x.f17.length c23, .slice A24 x.f18.length c24] := fun W2 hW => k29_mk W2 x l7 (g7 W2 hW) l13 (g13 W2 hW) l18 (g18 W2 hW) l22 (g22 W2 hW) l23 (g23 W2 hW) l24 (g24 W2 hW)
def rd_T29 (xs : List S29) (i : Int) : S29 := xs.getD i.toNat z29
theorem at_T29 {w : World} {A : Option Addr} {n : Nat} {xs : List S29} (h : Kd.C k29 w A n xs) (i : Int) (h0 : 0 ≤ i) (h1 : i < n) : ∃ ad A7 c7 A13 c13 A18 c18 A22 c22 A23 c23 A24 c24, A = some ad ∧ w.cell? (ad.add (i.toNat * 25)) = some (.int .i64 (rd_T29 xs i).f0) ∧ w.cell? ⟨(ad.add (i.toNat * 25)).block, (ad.add (i.toNat * 25)).off + 1, none⟩ = some (.int .i64 (rd_T29 xs i).f1) ∧ w.cell? ⟨(ad.add (i.toNat * 25)).block, (ad.add (i.toNat * 25)).off + 2, none⟩ = some (.bool (rd_T29 xs i).f2) ∧ w.cell? ⟨(ad.add (i.toNat * 25)).block, (ad.add (i.toNat * 25)).off + 3, none⟩ = some (.int .i64 (rd_T29 xs i).f3) ∧ w.cell? ⟨(ad.add (i.toNat * 25)).block, (ad.add (i.toNat * 25)).off + 4, none⟩ = some (.string (rd_T29 xs i).f4) ∧ w.cell? ⟨(ad.add (i.toNat * 25)).block, (ad.add (i.toNat * 25)).off + 5, none⟩ = some (.bool (rd_T29 xs i).f5) ∧ w.cell? ⟨(ad.add (i.toNat * 25)).block, (ad.add (i.toNat * 25)).off + 6, none⟩ = some (.string (rd_T29 xs i).f6.f0) ∧ w.cell? ⟨(ad.add (i.toNat * 25)).block, (ad.add (i.toNat * 25)).off + 7, none⟩ = some (.slice A7 (rd_T29 xs i).f6.f1.length c7) ∧ w.cell? ⟨(ad.add (i.toNat * 25)).block, (ad.add (i.toNat * 25)).off + 8, none⟩ = some (.int .i64 (rd_T29 xs i).f6.f2) ∧ w.cell? ⟨(ad.add (i.toNat * 25)).block, (ad.add (i.toNat * 25)).off + 9, none⟩ = some (.bool (rd_T29 xs i).f6.f3) ∧ w.cell? ⟨(ad.add (i.toNat * 25)).block, (ad.add (i.toNat * 25)).off + 10, none⟩ = some (.bool (rd_T29 xs i).f7) ∧ w.cell? ⟨(ad.add (i.toNat * 25)).block, (ad.add (i.toNat * 25)).off + 11, none⟩ = some (.string (rd_T29 xs i).f8) ∧ w.cell? ⟨(ad.add (i.toNat * 25)).block, (ad.add (i.toNat * 25)).off + 12, none⟩ = some (.bool (rd_T29 xs i).f9) ∧ w.cell? ⟨(ad.add (i.toNat * 25)).block, (ad.add (i.toNat * 25)).off + 13, none⟩ = some (.slice A13 (rd_T29 xs i).f10.length c13) ∧ w.cell? ⟨(ad.add (i.toNat * 25)).block, (ad.add (i.toNat * 25)).off + 14, none⟩ = some (.bool (rd_T29 xs i).f11) ∧ w.cell? ⟨(ad.add (i.toNat * 25)).block, (ad.add (i.toNat * 25)).off + 15, none⟩ = some (.int .i64 (rd_T29 xs i).f12) ∧ w.cell? ⟨(ad.add (i.toNat * 25)).block, (ad.add (i.toNat * 25)).off + 16, none⟩ = some (.bool (rd_T29 xs i).f13) ∧ w.cell? ⟨(ad.add (i.toNat * 25)).block, (ad.add (i.toNat * 25)).off + 17, none⟩ = some (.string (rd_T29 xs i).f14.f0) ∧ w.cell? ⟨(ad.add (i.toNat * 25)).block, (ad.add (i.toNat * 25)).off + 18, none⟩ = some (.slice A18 (rd_T29 xs i).f14.f1.length c18) ∧ w.cell? ⟨(ad.add (i.toNat * 25)).block, (ad.add (i.toNat * 25)).off + 19, none⟩ = some (.int .i64 (rd_T29 xs i).f14.f2) ∧ w.cell? ⟨(ad.add (i.toNat * 25)).block, (ad.add (i.toNat * 25)).off + 20, none⟩ = some (.bool (rd_T29 xs i).f14.f3) ∧ w.cell? ⟨(ad.add (i.toNat * 25)).block, (ad.add (i.toNat * 25)).off + 21, none⟩ = some (.int .i64 (rd_T29 xs i).f15) ∧ w.cell? ⟨(ad.add (i.toNat * 25)).block, (ad.add (i.toNat * 25)).off + 22, none⟩ = some (.slice A22 (rd_T29 xs i).f16.length c22) ∧ w.cell? ⟨(ad.add (i.toNat * 25)).block, (ad.add (i.toNat * 25)).off + 23, none⟩ = some (.slice A23 (rd_T29 xs i).f17.length c23) ∧ w.cell? ⟨(ad.add (i.toNat * 25)).block, (ad.add (i.toNat * 25)).off + 24, none⟩ = some (.slice A24 (rd_T29 xs i).f18.length c24) ∧ (rd_T29 xs i).f6.f1.length ≤ c7 ∧ (Kd.int .u8).C w A7 (rd_T29 xs i).f6.f1.length (rd_T29 xs i).f6.f1 ∧ (rd_T29 xs i).f10.length ≤ c13 ∧ (Kd.int .u8).C w A13 (rd_T29 xs i).f10.length (rd_T29 xs i).f10 ∧ (rd_T29 xs i).f14.f1.length ≤ c18 ∧ (Kd.int .u8).C w A18 (rd_T29 xs i).f14.f1.length (rd_T29 xs i).f14.f1 ∧ (rd_T29 xs i).f16.length ≤ c22 ∧ k45.C w A22 (rd_T29 xs i).f16.length (rd_T29 xs i).f16 ∧ (rd_T29 xs i).f17.length ≤ c23 ∧ (Kd.int .i64).C w A23 (rd_T29 xs i).f17.length (rd_T29 xs i).f17 ∧ (rd_T29 xs i).f18.length ≤ c24 ∧ Kd.string.C w A24 (rd_T29 xs i).f18.length (rd_T29 xs i).f18 := by
  obtain ⟨ad, c, e, _, hK, hc0⟩ := Kd.C_get h z29 i h0 h1
  have hc : ∀ j u, c[j]? = some u → w.cell? (ad.add (i.toNat * 25 + j)) = some u := hc0
  obtain ⟨A7, c7, A13, c13, A18, c18, A22, c22, A23, c23, A24, c24, rfl, l7, g7, l13, g13, l18, g18, l22, g22, l23, g23, l24, g24⟩ := k29_open hK
  exact ⟨ad, A7, c7, A13, c13, A18, c18, A22, c22, A23, c23, A24, c24, e, hc 0 _ rfl, by rw [← add_field _ _ 1 (by omega)]; exact hc 1 _ rfl, by rw [← add_field _ _ 2 (by omega)]; exact hc 2 _ rfl, by rw [← add_field _ _ 3 (by omega)]; exact hc 3 _ rfl, by rw [← add_field _ _ 4 (by omega)]; exact hc 4 _ rfl, by rw [← add_field _ _ 5 (by omega)]; exact hc 5 _ rfl, by rw [← add_field _ _ 6 (by omega)]; exact hc 6 _ rfl, by rw [← add_field _ _ 7 (by omega)]; exact hc 7 _ rfl, by rw [← add_field _ _ 8 (by omega)]; exact hc 8 _ rfl, by rw [← add_field _ _ 9 (by omega)]; exact hc 9 _ rfl, by rw [← add_field _ _ 10 (by omega)]; exact hc 10 _ rfl, by rw [← add_field _ _ 11 (by omega)]; exact hc 11 _ rfl, by rw [← add_field _ _ 12 (by omega)]; exact hc 12 _ rfl, by rw [← add_field _ _ 13 (by omega)]; exact hc 13 _ rfl, by rw [← add_field _ _ 14 (by omega)]; exact hc 14 _ rfl, by rw [← add_field _ _ 15 (by omega)]; exact hc 15 _ rfl, by rw [← add_field _ _ 16 (by omega)]; exact hc 16 _ rfl, by rw [← add_field _ _ 17 (by omega)]; exact hc 17 _ rfl, by rw [← add_field _ _ 18 (by omega)]; exact hc 18 _ rfl, by rw [← add_field _ _ 19 (by omega)]; exact hc 19 _ rfl, by rw [← add_field _ _ 20 (by omega)]; exact hc 20 _ rfl, by rw [← add_field _ _ 21 (by omega)]; exact hc 21 _ rfl, by rw [← add_field _ _ 22 (by omega)]; exact hc 22 _ rfl, by rw [← add_field _ _ 23 (by omega)]; exact hc 23 _ rfl, by rw [← add_field _ _ 24 (by omega)]; exact hc 24 _ rfl, l7, g7, l13, g13, l18, g18, l22, g22, l23, g23, l24, g24⟩

end Go.Proofs.YtipliohgnaoblaaDoor.MPacketStays
