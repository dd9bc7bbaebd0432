/- The search for a topic outside: what (*outside).at, ends and rest compute. -/
import Derived.Test.YtfomjbbebgajcaaGreatDoorBr
namespace Go.Proofs.YtfomjbbebgajcaaGreatDoor.Giv
open Go.RowKit Go.Proofs.YtfomjbbebgajcaaGreatDoorW.PrintWords Go.Proofs.YtfomjbbebgajcaaGreatDoorW.PrintLast Go.Proofs.YtfomjbbebgajcaaGreatDoorW.PrintMore Go.Proofs.YtfomjbbebgajcaaGreatDoor.MCoverLeast
open Go.Proofs.YtfomjbbebgajcaaGreatDoorW.PrintWords.Aside0 renaming mk → am
set_option linter.unusedVariables false
set_option linter.unusedSimpArgs false

/-- the object of the search at block g -/
def Ob (w : World) (g : Nat) (f : ByteArray) (A1 : Option Addr) (c1 : Nat) (a : List ByteArray) (A2 : Option Addr) (c2 : Nat) (b : List ByteArray) (v3 : Value) : Prop :=
 w.heap[g]? = some (.cells #[.string f, .slice A1 a.length c1, .slice A2 b.length c2, v3] 148 (0, 0))
theorem Ob.cell1 {w : World} {g : Nat} {f : ByteArray} {A1 : Option Addr} {c1 : Nat} {a : List ByteArray} {A2 : Option Addr} {c2 : Nat} {b : List ByteArray} {v3 : Value} (h : Ob w g f A1 c1 a A2 c2 b v3) :
  w.cell? ⟨g, 0, none⟩ = some (.string f) ∧ w.cell? ⟨g, 1, none⟩ = some (.slice A1 a.length c1) ∧ w.cell? ⟨g, 2, none⟩ = some (.slice A2 b.length c2) ∧ w.cell? ⟨g, 3, none⟩ = some v3 :=
 ⟨blk_cell h 0, blk_cell h 1, blk_cell h 2, blk_cell h 3⟩

theorem Ob.below {w w1 : World} {g : Nat} {f : ByteArray} {A1 : Option Addr} {c1 : Nat} {a : List ByteArray} {A2 : Option Addr} {c2 : Nat} {b : List ByteArray} {v3 : Value} (h : Ob w g f A1 c1 a A2 c2 b v3) (hb : Below w.heap.size w w1) : Ob w1 g f A1 c1 a A2 c2 b v3 := blk_below h hb
theorem sign_f (x : ByteArray) : cover_sign.f x = some (Cr.sg (Cr.bl x)) := by
 unfold cover_sign.f
 rw [tl]
 by_cases h : Cr.bl x = [43]
 ·rw [if_pos h]; simp [Cr.sg, h]
 ·rw [if_neg h]
  congr 1
  have : (Cr.bl x == Cr.P) = false := by simpa using h
  simp [Cr.sg, this]
theorem C_at {w : World} {A : Option Addr} {l : List ByteArray} (h : Kd.C Kd.string w A l.length l) (i : Nat) (hi : i < l.length) : ∃ ad, A = some ad ∧ w.cell? (ad.add i) = some (.string l[i]) := by
 obtain ⟨ad, e, hc⟩ := Kd.at_string h (i : Int) (by omega) (by omega)
 rw [rd_at l i hi, Int.toNat_natCast] at hc
 exact ⟨ad, e, hc⟩

/-- f's levels from a place on, # for all that follow it -/
def raB (a : List ByteArray) (i : Nat) : List ByteArray := if i < a.length then a.drop i else if a.getLast? = some (ofT Cr.H) then [ofT Cr.H] else []
def atP (a : List ByteArray) (i : Nat) : ByteArray × Bool × Bool :=
 match raB a i with
 | [] => (⟨#[]⟩, false, false)
 | x :: _ => if Cr.sg (Cr.bl x) = true then (⟨#[]⟩, true, true) else (x, false, true)

set_option maxHeartbeats 8000000 in
set_option maxRecDepth 100000 in
theorem at_calls (g : Nat) (f : ByteArray) (A1 : Option Addr) (c1 : Nat) (a : List ByteArray) (A2 : Option Addr) (c2 : Nat) (b : List ByteArray) (v3 : Value) (i : Nat) (hi : i ≤ 4294967290) (ha : 0 < a.length) (hal : a.length ≤ 4294967290) (w : World)
  (hO : Ob w g f A1 c1 a A2 c2 b v3) (hC : Kd.C Kd.string w A1 a.length a) (r1 : ByteArray) (r2 r3 : Bool) (hr : atP a i = (r1, r2, r3)) :
  Calls Tryz.prog 93 #[.pointer (some ⟨g, 0, none⟩), .int .i64 i] w fun e w' => e = .returned (.tuple #[.string r1, .bool r2, .bool r3]) ∧ Drawn0 w w' := by
 obtain ⟨hc0, hc1, hc2, hc3⟩ := hO.cell1
 have HC := am hC
 clear hO hC hc2 hc3 hc0
 by_cases hlt : i < a.length
 ·obtain ⟨ad, rfl, hx⟩ := C_at HC.out i hlt
  have hp : atP a i = if Cr.sg (Cr.bl a[i]) = true then (⟨#[]⟩, true, true) else (a[i], false, true) := by
   unfold atP raB
   rw [if_pos hlt, List.drop_eq_getElem_cons hlt]
  rw [hp] at hr
  have A1 := am (sign_f a[i])
  obtain ⟨x, hxx⟩ : ∃ x, a[i] = x := ⟨_, rfl⟩
  rw [hxx] at hr hx A1
  clear hp hxx
  have hltb : ¬ (a.length ≤ i) := by omega
  cases hs : Cr.sg (Cr.bl x)
  ·rw [hs] at A1 hr
   simp only [Bool.false_eq_true, if_false, Prod.mk.injEq] at hr
   obtain ⟨rfl, rfl, rfl⟩ := hr
   clear hs
   go_enter Tryz.func93, Tryz.ntmps93
   go_wp2_with (go_at_call 87; (with_reducible refine (cover_sign.calls x false _ A1.out).mono ?_); rintro e w' ⟨rfl, ⟨nd, rfl⟩⟩)
   go_ret3
   exact ⟨rfl, by repeat (first | exact Drawn0.refl _ | apply Drawn0.step)⟩
  ·rw [hs] at A1 hr
   simp only [if_true, Prod.mk.injEq] at hr
   obtain ⟨rfl, rfl, rfl⟩ := hr
   clear hs
   go_enter Tryz.func93, Tryz.ntmps93
   go_wp2_with (go_at_call 87; (with_reducible refine (cover_sign.calls x true _ A1.out).mono ?_); rintro e w' ⟨rfl, ⟨nd, rfl⟩⟩)
   go_ret3
   exact ⟨rfl, by repeat (first | exact Drawn0.refl _ | apply Drawn0.step)⟩
 ·have hla : a.length - 1 < a.length := by omega
  obtain ⟨ad, rfl, hx⟩ := C_at HC.out (a.length - 1) hla
  have hlast : a.getLast? = some a[a.length - 1] := by rw [List.getLast?_eq_getElem?, List.getElem?_eq_getElem hla]
  obtain ⟨x, hxx⟩ : ∃ x, a[a.length - 1] = x := ⟨_, rfl⟩
  rw [hxx] at hlast hx
  have hp : atP a i = if Cr.bl x = Cr.H then (⟨#[]⟩, true, true) else (⟨#[]⟩, false, false) := by
   unfold atP raB
   rw [if_neg hlt, hlast]
   by_cases hh : Cr.bl x = Cr.H
   ·have : x = ofT Cr.H := bl_inj hh
    rw [if_pos hh, this]; rfl
   ·have : ¬ (some x = some (ofT Cr.H)) := by rintro e; cases e; exact hh rfl
    rw [if_neg hh, if_neg this]
  rw [hp] at hr
  clear hp hlast hxx
  have e1 : ((a.length : Int) - 1).toNat = a.length - 1 := by omega
  have hge : a.length ≤ i := by omega
  by_cases hh : Cr.bl x = Cr.H
  ·rw [if_pos hh] at hr
   simp only [Prod.mk.injEq] at hr
   obtain ⟨rfl, rfl, rfl⟩ := hr
   have hb : (x.toList == ([35] : List UInt8)) = true := by rw [tl, hh]; rfl
   clear hh
   go_enter Tryz.func93, Tryz.ntmps93
   go_wp2
   go_ret3
   exact ⟨rfl, by repeat (first | exact Drawn0.refl _ | apply Drawn0.step)⟩
  ·rw [if_neg hh] at hr
   simp only [Prod.mk.injEq] at hr
   obtain ⟨rfl, rfl, rfl⟩ := hr
   have hb : (x.toList == ([35] : List UInt8)) = false := by rw [tl, beq_eq_false_iff_ne]; exact hh
   clear hh
   go_enter Tryz.func93, Tryz.ntmps93
   go_wp2
   go_ret3
   exact ⟨rfl, by repeat (first | exact Drawn0.refl _ | apply Drawn0.step)⟩
def endsP (a : List ByteArray) (i : Nat) : Bool := decide (0 < i) && (decide (i = a.length) || (decide (a.getLast? = some (ofT Cr.H)) && decide (a.length ≤ i + 1)))
set_option maxHeartbeats 8000000 in
set_option maxRecDepth 100000 in
theorem ends_calls (g : Nat) (f : ByteArray) (A1 : Option Addr) (c1 : Nat) (a : List ByteArray) (A2 : Option Addr) (c2 : Nat) (b : List ByteArray) (v3 : Value) (i : Nat) (hi : i ≤ 4294967290) (ha : 0 < a.length) (hal : a.length ≤ 4294967290) (w : World)
  (hO : Ob w g f A1 c1 a A2 c2 b v3) (hC : Kd.C Kd.string w A1 a.length a) (r : Bool) (hr : endsP a i = r) :
  Calls Tryz.prog 92 #[.pointer (some ⟨g, 0, none⟩), .int .i64 i] w fun e w' => e = .returned (.bool r) ∧ Drawn0 w w' := by
 obtain ⟨hc0, hc1, hc2, hc3⟩ := hO.cell1
 have hla : a.length - 1 < a.length := by omega
 obtain ⟨ad, rfl, hx⟩ := C_at hC (a.length - 1) hla
 have hlast : a.getLast? = some a[a.length - 1] := by rw [List.getLast?_eq_getElem?, List.getElem?_eq_getElem hla]
 obtain ⟨x, hxx⟩ : ∃ x, a[a.length - 1] = x := ⟨_, rfl⟩
 rw [hxx] at hlast hx
 have hH : (a.getLast? = some (ofT Cr.H)) ↔ Cr.bl x = Cr.H := by
  rw [hlast]
  constructor
  ·rintro e; cases e; rfl
  ·intro e; rw [show x = ofT Cr.H from bl_inj e]
 clear hO hC hc2 hc3 hc0 hxx hlast
 have e1 : ((a.length : Int) - 1).toNat = a.length - 1 := by omega
 have hr0 : (decide (0 < i) && (decide (i = a.length) || (decide (Cr.bl x = Cr.H) && decide (a.length ≤ i + 1)))) = r := by rw [← hr]; unfold endsP; rw [decide_eq_decide.2 hH]
 clear hr
 have hr := hr0
 clear hH hr0
 by_cases h0 : 0 < i
 ·have h0b := eq_true h0
  by_cases he : i = a.length
  ·subst he
   have hr' : r = true := by rw [← hr]; simp; omega
   subst hr'
   clear hr
   go_enter Tryz.func92, Tryz.ntmps92
   go_wp2
   go_ret
   exact ⟨by first | rfl | (simp; done), by repeat (first | exact Drawn0.refl _ | apply Drawn0.step)⟩
  ·have heb : ((i : Int) == (a.length : Int)) = false := beq_eq_false_iff_ne.mpr (by omega)
   have heb' : (i == a.length) = false := beq_eq_false_iff_ne.mpr he
   have hab := eq_true ha
   by_cases hh : Cr.bl x = Cr.H
   ·have hb : (x.toList == ([35] : List UInt8)) = true := by rw [tl, hh]; rfl
    have hr' : r = decide (a.length ≤ i + 1) := by rw [← hr]; simp [h0, he, hh]
    clear hr
    by_cases hq : a.length ≤ i + 1
    ·have hqb := eq_true (show (a.length : Int) - 1 ≤ i by omega)
     rw [decide_eq_true hq] at hr'
     subst hr'
     clear hh
     go_enter Tryz.func92, Tryz.ntmps92
     go_wp2
     go_ret
     exact ⟨by first | rfl | (simp; done), by repeat (first | exact Drawn0.refl _ | apply Drawn0.step)⟩
    ·have hqb := eq_false (show ¬ ((a.length : Int) - 1 ≤ i) by omega)
     rw [decide_eq_false hq] at hr'
     subst hr'
     clear hh
     go_enter Tryz.func92, Tryz.ntmps92
     go_wp2
     go_ret
     exact ⟨by first | rfl | (simp; done), by repeat (first | exact Drawn0.refl _ | apply Drawn0.step)⟩
   ·have hb : (x.toList == ([35] : List UInt8)) = false := by rw [tl, beq_eq_false_iff_ne]; exact hh
    have hr' : r = false := by rw [← hr]; simp [he, hh]
    subst hr'
    clear hh hr
    go_enter Tryz.func92, Tryz.ntmps92
    go_wp2
    go_ret
    exact ⟨by first | rfl | (simp; done), by repeat (first | exact Drawn0.refl _ | apply Drawn0.step)⟩
 ·have hr' : r = false := by rw [← hr]; simp [h0]
  subst hr'
  obtain rfl : i = 0 := by omega
  clear hr h0
  go_enter Tryz.func92, Tryz.ntmps92
  go_wp2
  go_ret
  exact ⟨by first | rfl | (simp; done), by repeat (first | exact Drawn0.refl _ | apply Drawn0.step)⟩

def restB (a : List ByteArray) (i : Nat) : List ByteArray := (Cr.least (LL (a.drop i))).map ofT
theorem LL_map_ofT (l : List Cr.T) : LL (l.map ofT) = l := by
 unfold LL
 rw [List.map_map]
 conv => rhs; rw [← List.map_id l]
 exact List.map_congr_left fun x _ => rfl
theorem LL_restB (a : List ByteArray) (i : Nat) : LL (restB a i) = Cr.least (LL (a.drop i)) := LL_map_ofT _
theorem least_len : ∀ l : List Cr.T, (Cr.least l).length ≤ l.length
 | [] => Nat.le_refl _
 | x :: l => by
  unfold Cr.least
  split
  ·simp
  ·have := least_len l; simp; omega
theorem restB_len (a : List ByteArray) (i : Nat) : (restB a i).length ≤ a.length := by
 have := least_len (LL (a.drop i))
 rw [← LL_restB, LL_len, LL_len, List.length_drop] at this; omega

set_option maxHeartbeats 8000000 in
set_option maxRecDepth 100000 in
theorem rest_calls (g : Nat) (f : ByteArray) (A1 : Option Addr) (c1 : Nat) (a : List ByteArray) (A2 : Option Addr) (c2 : Nat) (b : List ByteArray) (v3 : Value) (i : Nat) (hi : i ≤ 4294967290) (hal : a.length ≤ 4294967280) (w : World)
  (hO : Ob w g f A1 c1 a A2 c2 b v3) (hC : Kd.C Kd.string w A1 a.length a) (hcap : a.length ≤ c1) :
  Calls Tryz.prog 154 #[.pointer (some ⟨g, 0, none⟩), .int .i64 i] w fun e w' => ∃ v, e = .returned v ∧ Kd.R Kd.string 9 w' w.heap.size (fun _ => True) v (restB a i) ∧ Below w.heap.size w w' := by
 obtain ⟨hc0, hc1, hc2, hc3⟩ := hO.cell1
 clear hO hc2 hc3 hc0
 by_cases hlt : i < a.length
 ·obtain ⟨r, hf, hr, hrl⟩ := least_f (a.drop i) (by simp; unfold big; omega) (a.length + 1) (by simp; omega)
  have A0 := am hf
  have HR := am hr
  have HRL := am (show r.length ≤ a.length by simp at hrl; omega)
  clear hf hr hrl
  obtain ⟨i0, hi0, _, hsz, _⟩ := info_parts info9
  have hcut := cut_from (P := Tryz.prog) 22 9 .i64 Tryz.underlying22 hi0 1 hsz A1 a.length c1 (i : Int) (by omega) (by omega)
  have hr1 := Kd.C_drop (m := ((i : Int)).toNat) (c := c1) hC (by omega) hcap
  simp only [Int.toNat_natCast] at hcut hr1
  obtain ⟨A', hA'⟩ : ∃ A1', A1' = (if c1 = i then A1 else (A1 : Option Addr).map (·.add (i * 1))) := ⟨_, rfl⟩
  obtain ⟨c', hc'⟩ : ∃ c1', c1' = c1 - i := ⟨_, rfl⟩
  obtain ⟨y, hy⟩ : ∃ y, a.drop i = y := ⟨_, rfl⟩
  have hyl : y.length = a.length - i := by rw [← hy, List.length_drop]
  rw [hy] at hr1 A0 HR
  replace hr1 : Kd.C Kd.string w A' y.length y := by rw [hA']; exact hr1
  rw [← hyl, ← hA', ← hc'] at hcut
  have HR1 := am hr1
  have HC1 := am (show y.length ≤ c' by omega)
  have HY := am hy
  clear hr1 hi0 hsz hA' hc' hy hyl hC
  have hge : ¬ (a.length ≤ i) := by omega
  go_enter Tryz.func154, Tryz.ntmps154
  go_wp2_with (go_at_call 91; (with_reducible refine (cover_least.calls (a.length + 1) _ _ y r _ ?side1 ?side2 A0.out).mono ?_); (case side1 => exact HR1.out); (case side2 => exact HC1.out); rintro e w' ⟨v, rfl, ho, hb⟩)
  go_ret
  exact ⟨_, rfl, by rw [show restB a i = r from LL_inj (by rw [LL_restB, HY.out, HR.out])]; exact ho, hb⟩
 ·have hge : a.length ≤ i := by omega
  go_enter Tryz.func154, Tryz.ntmps154
  go_wp2
  go_ret
  exact ⟨_, rfl, by rw [show restB a i = [] by unfold restB; rw [List.drop_eq_nil_of_le hge]; rfl]; exact Kd.R_nil _ _ _ _ _, Below.refl _ _⟩
theorem C_one {W : World} {b : Nat} {x : ByteArray} (h : W.cell? ⟨b, 0, none⟩ = some (.string x)) : Kd.C Kd.string W (some ⟨b, 0, none⟩) [x].length [x] := by
 refine ⟨rfl, by simp, fun _ => ⟨_, rfl, fun j p hj => ?_⟩⟩
 have hj0 : j = 0 := by
  have := (List.getElem?_eq_some_iff.1 hj).1
  simp at this; exact this
 subst hj0
 simp at hj
 subst hj
 refine ⟨[.string x], rfl, rfl, fun i u hu => ?_⟩
 have hi0 : i = 0 := by
  have := (List.getElem?_eq_some_iff.1 hu).1
  simp at this; exact this
 subst hi0
 simp at hu
 subst hu
 simpa [Addr.add] using h

theorem R_addr {e : Nat} {W : World} {base : Nat} {ok : Nat → Prop} {v : Value} {xs : List ByteArray} (h : Kd.R Kd.string e W base ok v xs) (hx : xs ≠ []) : ∃ g cap, v = .slice (some ⟨g, 0, none⟩) xs.length cap ∧ base ≤ g := by
 obtain ⟨inner, ho⟩ := Kd.R_own h
 rcases ho.2 with ⟨hv, hn⟩ | ⟨g, cap, cur, rfl, hg, _⟩
 ·exfalso
  exact hx (List.length_eq_zero_iff.1 hn)
 ·exact ⟨g, cap, rfl, hg⟩

theorem put1 {e : Nat} {W : World} {B : Nat} {ok : Nat → Prop} {g c : Nat} {z : ByteArray} (h : Kd.R Kd.string e W B ok (.slice (some ⟨g, 0, none⟩) 1 c) [z]) (x : ByteArray) : Kd.R Kd.string e (W.setCell ⟨g, 0, none⟩ (.string x)) B ok (.slice (some ⟨g, 0, none⟩) 1 c) [x] := (Kd.R_put h 0 x).1

theorem read_below {w w1 : World} (hb : Below w.heap.size w w1) {a : Addr} {v : Value} (hc : w.cell? a = some v) : w1.cell? a = some v := (hb.cell (World.block_lt_of_cell? w a hc)).trans hc

theorem put1f {e : Nat} {W : World} {B : Nat} {ok : Nat → Prop} {g c : Nat} {z : ByteArray} (h : Kd.R Kd.string e W B ok (.slice (some ⟨g, 0, none⟩) 1 c) [z]) : W.frozen? ⟨g, 0, none⟩ = false := (Kd.R_cell (⟨#[]⟩ : ByteArray) h 0 (by decide) (Int.ofNat_lt.2 (Nat.zero_lt_succ 0))).2

def leavesL (own a b : List ByteArray) (i : Nat) (lev : ByteArray) (free : Bool) : List ByteArray :=
 if own ++ [lev] ++ restB a (i + 1) = [⟨#[]⟩] ∧ free = true then (if b[i]? = some (⟨#[97]⟩ : ByteArray) then [(⟨#[98]⟩ : ByteArray)] else [(⟨#[97]⟩ : ByteArray)]) else own ++ [lev] ++ restB a (i + 1)

set_option maxHeartbeats 8000000 in
set_option maxRecDepth 100000 in
theorem leaves_calls (g : Nat) (f : ByteArray) (A1 : Option Addr) (c1 : Nat) (a : List ByteArray) (A2 : Option Addr) (c2 : Nat) (b : List ByteArray) (A3 : Option Addr) (c3 : Nat) (own : List ByteArray) (i : Nat) (hi : own.length = i) (hib : i ≤ 4294967280) (hal : a.length ≤ 4294967280) (w : World)
  (hO : Ob w g f A1 c1 a A2 c2 b (.slice A3 own.length c3)) (hC : Kd.C Kd.string w A1 a.length a) (hcap : a.length ≤ c1) (hC2 : Kd.C Kd.string w A2 b.length b) (hC3 : Kd.C Kd.string w A3 own.length own) (hcap3 : own.length ≤ c3)
  (lev : ByteArray) (free : Bool) (K : Nat) (s : ByteArray) (ok : Bool) (ht : cover_told.f K (leavesL own a b i lev free) false [f] = some (s, ok)) :
  Calls Tryz.prog 94 #[.pointer (some ⟨g, 0, none⟩), .int .i64 i, .string lev, .bool free] w fun e w' => e = .returned (.tuple #[.string s, .bool ok]) ∧ Below w.heap.size w w' := by
 subst hi
 obtain ⟨hc0, hc1, hc2, hc3⟩ := hO.cell1
 have HO := am hO
 have HC := am hC
 have HC2 := am hC2
 have HC3 := am hC3
 have HT := am ht
 have HB0 := am (Below.refl w.heap.size w)
 have hrl := restB_len a (own.length + 1)
 clear hO hC hC2 hC3 ht
 have hcut := cut_to (P := Tryz.prog) 22 9 .i64 Tryz.underlying22 (info_parts info9).choose_spec.1 A3 own.length c3 (own.length : Int) (by omega) (by omega) hcap3
 simp only [Int.toNat_natCast] at hcut
 go_enter Tryz.func94, Tryz.ntmps94
 go_wp2_with (first | ((with_reducible refine gate_builtin (b := .append) (xs := #[.const (.slice none 0 0), .tmp 16]) rfl ?_); at_builtin; refine Kd.R_append_rows Kd.string (w0 := w) w.heap.size rfl (.const (.slice none 0 0)) (.tmp 16) 22 9 (.string ⟨#[]⟩) 16 rfl Tryz.underlying22 info9 rfl (by decide) (by omega) (.slice none 0 0) [] own _ _ _ (fun _ => True) (fun _ => False) rfl rfl (Kd.R_nil _ _ _ _ _) HC3.out (fun _ _ h => h) (fun _ h => h.elim) (fun _ _ => trivial) HB0.out (Nat.le_refl _) ?aL ?_; (case aL => simp; omega); intro v1 w1 ho hb hg hat; rw [List.nil_append] at ho; have HO1 := am ho; have HB1 := am hb; clear ho hb hg hat) | ((with_reducible refine gate_builtin (b := .append) (xs := #[.tmp 17, .tmp 19]) rfl ?_); at_builtin; refine Kd.R_append Kd.string (w0 := w) w.heap.size rfl (.tmp 17) (.tmp 19) 22 9 (.string ⟨#[]⟩) 16 rfl Tryz.underlying22 info9 rfl (by decide) (by omega) v1 own lev [.string lev] (fun _ => True) (fun _ => False) rfl rfl ?aP (fun _ hk => hk.elim) ?aF ?aO ?aB ?aS ?aL ?_; (case aP => exact rfl); (case aB => exact HB1.out); (case aF => exact (fun _ _ => trivial)); (case aO => exact HO1.out); (case aS => exact below_size HB1.out); (case aL => omega); intro v2 w2 ho hb hg hat; have HO2 := am ho; have HB2 := am hb; clear ho hb hg hat HO1 HB1))
 have hrc := rest_calls g f A1 c1 a A2 c2 b (.slice A3 own.length c3) (own.length + 1) (by omega) hal w2 (blk_below HO.out HB2.out) (Kd.C_below HC.out HB2.out) hcap
 rw [show ((own.length + 1 : Nat) : Int) = (own.length : Int) + 1 by omega] at hrc
 refine hrc.mono ?_
 clear hrc
 rintro e w3 ⟨v3, rfl, ho3, hb3⟩
 have HB3 := am (below_step HB2.out hb3)
 have HO3 := am (Kd.R_below HO2.out hb3)
 have HR3 := am (Kd.R_lower ho3 (below_size HB2.out))
 clear ho3 hb3 HO2 HB2
 obtain ⟨Ar, cr, er⟩ := Kd.R_slice HR3.out
 subst er
 obtain ⟨y, hy⟩ : ∃ y, own ++ [lev] ++ restB a (own.length + 1) = y := ⟨_, rfl⟩
 have hyl : y.length = own.length + 1 + (restB a (own.length + 1)).length := by rw [← hy, List.length_append, List.length_append, List.length_singleton]
 have HY := am hy
 clear hy
 have HNE := am (show y ≠ [] by rintro rfl; simp only [List.length_nil] at hyl; omega)
 have hyb : y.length ≤ 8589934570 := by omega
 have HYL := am hyl
 clear hyl
 have hge : ¬ ((own.length : Int) < 0) := by omega
 by_cases hone : y.length = 1 ∧ free = true ∧ y = [⟨#[]⟩]
 ·obtain ⟨h1, rfl, hy1⟩ := hone
  subst hy1
  obtain ⟨z, hz⟩ : ∃ z : ByteArray, z = ⟨#[]⟩ := ⟨_, rfl⟩
  have hzb2 : (z.toList == []) = true := by rw [tl, hz]; rfl
  rw [← hz] at HY HNE
  have HZ := am hz
  clear hz h1
  by_cases hb0 : own.length < b.length
  ·obtain ⟨ab, eab, hxb⟩ := C_at HC2.out own.length hb0
   subst eab
   obtain ⟨xb, hxbe⟩ : ∃ xb, b[own.length] = xb := ⟨_, rfl⟩
   rw [hxbe] at hxb
   have hgb : b[own.length]? = some xb := by rw [List.getElem?_eq_getElem hb0, hxbe]
   have HXB := am hxb
   clear hxb hxbe
   have hnb : ¬ (b.length ≤ own.length) := by omega
   by_cases hxa : xb = ⟨#[97]⟩
   ·have hL : leavesL own a b own.length lev true = [⟨#[98]⟩] := by
     unfold leavesL
     rw [HY.out, HZ.out, if_pos ⟨rfl, rfl⟩, if_pos (by rw [hgb, hxa])]
    rw [hL] at HT
    have hxab : (xb.toList == [97]) = true := by rw [hxa, tl]; rfl
    clear hL hxa hgb
    go_wp2_with (first | ((with_reducible refine gate_builtin (b := .append) (xs := #[.tmp 21, .tmp 25]) rfl ?_); at_builtin; refine Kd.R_append_rows Kd.string (w0 := w) w.heap.size rfl (.tmp 21) (.tmp 25) 22 9 (.string ⟨#[]⟩) 16 rfl Tryz.underlying22 info9 rfl (by decide) (by omega) v2 (own ++ [lev]) (restB a (own.length + 1)) _ _ _ (fun _ => True) (fun _ => False) rfl rfl HO3.out (Kd.R_reads' HR3.out).2.2 (fun _ _ h => h) (fun _ h => h.elim) (fun _ _ => trivial) HB3.out (below_size HB3.out) ?aL ?_; (case aL => simp; omega); intro v4 w4 ho hb hg hat; rw [HY.out] at ho; obtain ⟨g4, c4, rfl, hg4⟩ := R_addr ho HNE.out; have HO4 := am ho; have HB4 := am hb; have HG4 := am hg4; obtain ⟨hq0, _, hq2, _⟩ := (HO.out.below hb).cell1;  obtain ⟨_, heq0, hqz⟩ := C_at (Kd.R_reads' ho).2.2 0 (Nat.zero_lt_succ 0); cases heq0; replace hqz : w4.cell? ⟨g4, 0, none⟩ = some (.string z) := hqz; have hfz := put1f ho; have HO5a := am (put1 ho (⟨#[97]⟩ : ByteArray)); have hfz2 := put1f HO5a.out; have HO5 := am (put1 HO5a.out (⟨#[98]⟩ : ByteArray)); have HB5a := am (below_set hb hg4 (j := 0) (v := .string ⟨#[97]⟩)); have HB5 := am (below_set HB5a.out hg4 (j := 0) (v := .string ⟨#[98]⟩)); obtain ⟨_, _, hq7, _⟩ := (HO.out.below HB5a.out).cell1; have hxb5 := read_below HB5a.out HXB.out; obtain ⟨hq5, _, hq6, _⟩ := (HO.out.below HB5.out).cell1; clear ho hb hg hat hg4 HO3 HR3 HB3) | (go_at_call 90; refine (cover_told.calls K _ _ [(⟨#[98]⟩ : ByteArray)] false _ _ [f] s ok _ ?s1 ?s2 ?s3 ?s4 HT.out).mono ?_; (case s1 => exact (Kd.R_reads' (Kd.R_alloc HO5.out _)).2.2); (case s2 => exact (Kd.R_reads' HO5.out).2.1); (case s3 => exact C_one (World.cell?_alloc_at _ _ _ _ (by first | rfl | simp [World.setCell]))); (case s4 => exact Nat.le_refl _); rintro e w5 ⟨rfl, hb5⟩; have HB6 := am (below_step (below_alloc HB5.out _) hb5); clear hb5))
    go_ret2
    exact ⟨rfl, HB6.out⟩
   ·have hL : leavesL own a b own.length lev true = [⟨#[97]⟩] := by
     unfold leavesL
     rw [HY.out, HZ.out, if_pos ⟨rfl, rfl⟩, if_neg (by rw [hgb]; rintro e; cases e; exact hxa rfl)]
    rw [hL] at HT
    have hxab : (xb.toList == [97]) = false := by rw [beq_eq_false_iff_ne]; rintro e; rw [tl] at e; exact hxa (bl_inj e)
    clear hL hxa hgb
    go_wp2_with (first | ((with_reducible refine gate_builtin (b := .append) (xs := #[.tmp 21, .tmp 25]) rfl ?_); at_builtin; refine Kd.R_append_rows Kd.string (w0 := w) w.heap.size rfl (.tmp 21) (.tmp 25) 22 9 (.string ⟨#[]⟩) 16 rfl Tryz.underlying22 info9 rfl (by decide) (by omega) v2 (own ++ [lev]) (restB a (own.length + 1)) _ _ _ (fun _ => True) (fun _ => False) rfl rfl HO3.out (Kd.R_reads' HR3.out).2.2 (fun _ _ h => h) (fun _ h => h.elim) (fun _ _ => trivial) HB3.out (below_size HB3.out) ?aL ?_; (case aL => simp; omega); intro v4 w4 ho hb hg hat; rw [HY.out] at ho; obtain ⟨g4, c4, rfl, hg4⟩ := R_addr ho HNE.out; have HO4 := am ho; have HB4 := am hb; have HG4 := am hg4; obtain ⟨hq0, _, hq2, _⟩ := (HO.out.below hb).cell1;  obtain ⟨_, heq0, hqz⟩ := C_at (Kd.R_reads' ho).2.2 0 (Nat.zero_lt_succ 0); cases heq0; replace hqz : w4.cell? ⟨g4, 0, none⟩ = some (.string z) := hqz; have hfz := put1f ho; have HO5 := am (put1 ho (⟨#[97]⟩ : ByteArray)); have HB5 := am (below_set hb hg4 (j := 0) (v := .string ⟨#[97]⟩)); have hxb5 := read_below HB5.out HXB.out; obtain ⟨hq5, _, hq6, _⟩ := (HO.out.below HB5.out).cell1; clear ho hb hg hat hg4 HO3 HR3 HB3) | (go_at_call 90; refine (cover_told.calls K _ _ [(⟨#[97]⟩ : ByteArray)] false _ _ [f] s ok _ ?s1 ?s2 ?s3 ?s4 HT.out).mono ?_; (case s1 => exact (Kd.R_reads' (Kd.R_alloc HO5.out _)).2.2); (case s2 => exact (Kd.R_reads' HO5.out).2.1); (case s3 => exact C_one (World.cell?_alloc_at _ _ _ _ (by first | rfl | simp [World.setCell]))); (case s4 => exact Nat.le_refl _); rintro e w5 ⟨rfl, hb5⟩; have HB6 := am (below_step (below_alloc HB5.out _) hb5); clear hb5))
    go_ret2
    exact ⟨rfl, HB6.out⟩
  ·have hb0' : b.length ≤ own.length := by omega
   have hL : leavesL own a b own.length lev true = [⟨#[97]⟩] := by
    unfold leavesL
    rw [HY.out, HZ.out, if_pos ⟨rfl, rfl⟩, if_neg]
    rw [List.getElem?_eq_none (by simpa using hb0')]; rintro ⟨⟩
   rw [hL] at HT
   clear hL
   go_wp2_with (first | ((with_reducible refine gate_builtin (b := .append) (xs := #[.tmp 21, .tmp 25]) rfl ?_); at_builtin; refine Kd.R_append_rows Kd.string (w0 := w) w.heap.size rfl (.tmp 21) (.tmp 25) 22 9 (.string ⟨#[]⟩) 16 rfl Tryz.underlying22 info9 rfl (by decide) (by omega) v2 (own ++ [lev]) (restB a (own.length + 1)) _ _ _ (fun _ => True) (fun _ => False) rfl rfl HO3.out (Kd.R_reads' HR3.out).2.2 (fun _ _ h => h) (fun _ h => h.elim) (fun _ _ => trivial) HB3.out (below_size HB3.out) ?aL ?_; (case aL => simp; omega); intro v4 w4 ho hb hg hat; rw [HY.out] at ho; obtain ⟨g4, c4, rfl, hg4⟩ := R_addr ho HNE.out; have HO4 := am ho; have HB4 := am hb; have HG4 := am hg4; obtain ⟨hq0, _, hq2, _⟩ := (HO.out.below hb).cell1;  obtain ⟨_, heq0, hqz⟩ := C_at (Kd.R_reads' ho).2.2 0 (Nat.zero_lt_succ 0); cases heq0; replace hqz : w4.cell? ⟨g4, 0, none⟩ = some (.string z) := hqz; have hfz := put1f ho; have HO5 := am (put1 ho (⟨#[97]⟩ : ByteArray)); have HB5 := am (below_set hb hg4 (j := 0) (v := .string ⟨#[97]⟩)); obtain ⟨hq5, _, hq6, _⟩ := (HO.out.below HB5.out).cell1; clear ho hb hg hat hg4 HO3 HR3 HB3) | (go_at_call 90; refine (cover_told.calls K _ _ [(⟨#[97]⟩ : ByteArray)] false _ _ [f] s ok _ ?s1 ?s2 ?s3 ?s4 HT.out).mono ?_; (case s1 => exact (Kd.R_reads' (Kd.R_alloc HO5.out _)).2.2); (case s2 => exact (Kd.R_reads' HO5.out).2.1); (case s3 => exact C_one (World.cell?_alloc_at _ _ _ _ (by first | rfl | simp [World.setCell]))); (case s4 => exact Nat.le_refl _); rintro e w5 ⟨rfl, hb5⟩; have HB6 := am (below_step (below_alloc HB5.out _) hb5); clear hb5))
   go_ret2
   exact ⟨rfl, HB6.out⟩
 ·have hL : leavesL own a b own.length lev free = y := by
   unfold leavesL
   rw [HY.out, if_neg (by rintro ⟨h1, h2⟩; exact hone ⟨by rw [h1]; rfl, h2, h1⟩)]
  rw [hL] at HT
  clear hL
  by_cases h1 : y.length = 1
  ·obtain ⟨z, rfl⟩ : ∃ z, y = [z] := by
    match y, h1 with
    | [z], _ => exact ⟨z, rfl⟩
   by_cases hz : Cr.bl z = []
   ·have hfr : free = false := by
     cases free with
     | false => rfl
     | true => exact absurd ⟨rfl, rfl, by rw [show z = ⟨#[]⟩ from bl_inj hz]⟩ hone
    subst hfr
    have hzb : z.toList.isEmpty = true := by rw [tl, hz]; rfl
    have hzb2 : (z.toList == []) = true := by rw [tl, hz]; rfl
    clear hone h1 hz
    go_wp2_with (first | ((with_reducible refine gate_builtin (b := .append) (xs := #[.tmp 21, .tmp 25]) rfl ?_); at_builtin; refine Kd.R_append_rows Kd.string (w0 := w) w.heap.size rfl (.tmp 21) (.tmp 25) 22 9 (.string ⟨#[]⟩) 16 rfl Tryz.underlying22 info9 rfl (by decide) (by omega) v2 (own ++ [lev]) (restB a (own.length + 1)) _ _ _ (fun _ => True) (fun _ => False) rfl rfl HO3.out (Kd.R_reads' HR3.out).2.2 (fun _ _ h => h) (fun _ h => h.elim) (fun _ _ => trivial) HB3.out (below_size HB3.out) ?aL ?_; (case aL => simp; omega); intro v4 w4 ho hb hg hat; rw [HY.out] at ho; obtain ⟨g4, c4, rfl, hg4⟩ := R_addr ho HNE.out; have HO4 := am ho; have HB4 := am hb; have HG4 := am hg4; obtain ⟨hq0, _, hq2, _⟩ := (HO.out.below hb).cell1;  obtain ⟨_, heq0, hqz⟩ := C_at (Kd.R_reads' ho).2.2 0 (Nat.zero_lt_succ 0); cases heq0; replace hqz : w4.cell? ⟨g4, 0, none⟩ = some (.string z) := hqz; clear ho hb hg hat hg4 HO3 HR3 HB3) | (go_at_call 90; refine (cover_told.calls K _ _ [z] false _ _ [f] s ok _ ?s1 ?s2 ?s3 ?s4 HT.out).mono ?_; (case s1 => exact (Kd.R_reads' (Kd.R_alloc HO4.out _)).2.2); (case s2 => exact (Kd.R_reads' HO4.out).2.1); (case s3 => exact C_one (World.cell?_alloc_at _ _ _ _ rfl)); (case s4 => exact Nat.le_refl _); rintro e w5 ⟨rfl, hb5⟩; have HB5 := am (below_step (below_alloc HB4.out _) hb5); clear hb5))
    go_ret2
    exact ⟨rfl, HB5.out⟩
   ·have hzb2 : (z.toList == []) = false := by rw [tl, beq_eq_false_iff_ne]; exact hz
    clear hone h1 hz hge
    go_wp2_with (first | ((with_reducible refine gate_builtin (b := .append) (xs := #[.tmp 21, .tmp 25]) rfl ?_); at_builtin; refine Kd.R_append_rows Kd.string (w0 := w) w.heap.size rfl (.tmp 21) (.tmp 25) 22 9 (.string ⟨#[]⟩) 16 rfl Tryz.underlying22 info9 rfl (by decide) (by omega) v2 (own ++ [lev]) (restB a (own.length + 1)) _ _ _ (fun _ => True) (fun _ => False) rfl rfl HO3.out (Kd.R_reads' HR3.out).2.2 (fun _ _ h => h) (fun _ h => h.elim) (fun _ _ => trivial) HB3.out (below_size HB3.out) ?aL ?_; (case aL => simp; omega); intro v4 w4 ho hb hg hat; rw [HY.out] at ho; obtain ⟨g4, c4, rfl, hg4⟩ := R_addr ho HNE.out; have HO4 := am ho; have HB4 := am hb; have HG4 := am hg4; obtain ⟨hq0, _, hq2, _⟩ := (HO.out.below hb).cell1;  obtain ⟨_, heq0, hqz⟩ := C_at (Kd.R_reads' ho).2.2 0 (Nat.zero_lt_succ 0); cases heq0; replace hqz : w4.cell? ⟨g4, 0, none⟩ = some (.string z) := hqz; clear ho hb hg hat hg4 HO3 HR3 HB3) | (go_at_call 90; refine (cover_told.calls K _ _ [z] false _ _ [f] s ok _ ?s1 ?s2 ?s3 ?s4 HT.out).mono ?_; (case s1 => exact (Kd.R_reads' (Kd.R_alloc HO4.out _)).2.2); (case s2 => exact (Kd.R_reads' HO4.out).2.1); (case s3 => exact C_one (World.cell?_alloc_at _ _ _ _ rfl)); (case s4 => exact Nat.le_refl _); rintro e w5 ⟨rfl, hb5⟩; have HB5 := am (below_step (below_alloc HB4.out _) hb5); clear hb5))
    go_ret2
    exact ⟨rfl, HB5.out⟩
  ·have h1b : ((y.length : Int) == 1) = false := beq_eq_false_iff_ne.mpr (by omega)
   clear hone h1
   go_wp2_with (first | ((with_reducible refine gate_builtin (b := .append) (xs := #[.tmp 21, .tmp 25]) rfl ?_); at_builtin; refine Kd.R_append_rows Kd.string (w0 := w) w.heap.size rfl (.tmp 21) (.tmp 25) 22 9 (.string ⟨#[]⟩) 16 rfl Tryz.underlying22 info9 rfl (by decide) (by omega) v2 (own ++ [lev]) (restB a (own.length + 1)) _ _ _ (fun _ => True) (fun _ => False) rfl rfl HO3.out (Kd.R_reads' HR3.out).2.2 (fun _ _ h => h) (fun _ h => h.elim) (fun _ _ => trivial) HB3.out (below_size HB3.out) ?aL ?_; (case aL => simp; omega); intro v4 w4 ho hb hg hat; rw [HY.out] at ho; obtain ⟨g4, c4, rfl, hg4⟩ := R_addr ho HNE.out; have HO4 := am ho; have HB4 := am hb; have HG4 := am hg4; obtain ⟨hq0, _, hq2, _⟩ := (HO.out.below hb).cell1;  clear ho hb hg hat hg4 HO3 HR3 HB3) | (go_at_call 90; refine (cover_told.calls K _ _ y false _ _ [f] s ok _ ?s1 ?s2 ?s3 ?s4 HT.out).mono ?_; (case s1 => exact (Kd.R_reads' (Kd.R_alloc HO4.out _)).2.2); (case s2 => exact (Kd.R_reads' HO4.out).2.1); (case s3 => exact C_one (World.cell?_alloc_at _ _ _ _ rfl)); (case s4 => exact Nat.le_refl _); rintro e w5 ⟨rfl, hb5⟩; have HB5 := am (below_step (below_alloc HB4.out _) hb5); clear hb5))
   go_ret2
   exact ⟨rfl, HB5.out⟩
end Go.Proofs.YtfomjbbebgajcaaGreatDoor.Giv
/- The search for a topic outside: its steps beside the plain search. -/
namespace Go.Proofs.YtfomjbbebgajcaaGreatDoor.Giv
open Go.RowKit Go.Proofs.YtfomjbbebgajcaaGreatDoorW.PrintWords Go.Proofs.YtfomjbbebgajcaaGreatDoorW.PrintLast Go.Proofs.YtfomjbbebgajcaaGreatDoorW.PrintMore Go.Proofs.YtfomjbbebgajcaaGreatDoor.MCoverLeast
set_option linter.unusedVariables false
set_option linter.unusedSimpArgs false

def ans (t : Option Cr.T) : ByteArray × Bool := match t with | some s => (ofT s, true) | none => (⟨#[]⟩, false)
theorem ans_tgt (s : ByteArray) (ok : Bool) : ans (if ok = true then some (Cr.bl s) else none) = if ok = true then (s, true) else (⟨#[]⟩, false) := by
 cases ok
 ·rfl
 ·simp [ans, ofT_bl]
theorem answer_f (s : ByteArray) (ok : Bool) : cover_answer.f s ok = some (ans (if ok = true then some (Cr.bl s) else none)) := by
 rw [ans_tgt]; unfold cover_answer.f; cases ok <;> rfl

def wt : List Cr.T → Nat
 | [] => 0
 | x :: l => x.length + 1 + wt l
theorem wt_append : ∀ a b : List Cr.T, wt (a ++ b) = wt a + wt b
 | [], b => by simp [wt]
 | x :: a, b => by simp [wt, wt_append a b]; omega
theorem wt_len : ∀ a : List Cr.T, a.length ≤ wt a
 | [] => Nat.le_refl _
 | x :: a => by have := wt_len a; simp [wt]; omega
theorem wt_join : ∀ a : List Cr.T, (Cr.join a).length ≤ wt a
 | [] => by simp [Cr.join, wt]
 | [x] => by simp [Cr.join, wt]
 | x :: y :: r => by
  have := wt_join (y :: r)
  rw [Cr.join_cons x (y :: r) (by simp)]
  simp only [List.length_append, List.length_cons, wt] at *
  omega
theorem wt_join_eq : ∀ a : List Cr.T, a ≠ [] → wt a = (Cr.join a).length + 1
 | [], h => absurd rfl h
 | [x], _ => by simp [Cr.join, wt]
 | x :: y :: r, _ => by
  have := wt_join_eq (y :: r) (by simp)
  rw [Cr.join_cons x (y :: r) (by simp)]
  simp only [List.length_append, List.length_cons, wt] at *
  omega
theorem wt_levels (s : Cr.T) : wt (Cr.levels s) = s.length + 1 := by
 rw [wt_join_eq _ (Cr.levels_ne s), Cr.join_levels]
theorem wt_least : ∀ a : List Cr.T, wt (Cr.least a) ≤ wt a
 | [] => Nat.le_refl _
 | x :: a => by
  unfold Cr.least
  split
  ·simp [wt]
  ·have := wt_least a
   have h2 : (Cr.lv x).length ≤ x.length := by unfold Cr.lv; split <;> simp
   simp only [wt]; omega
theorem wt_drop (a : List ByteArray) (i : Nat) (h : i < a.length) : wt (LL (a.drop i)) = (Cr.bl a[i]).length + 1 + wt (LL (a.drop (i + 1))) := by
 rw [List.drop_eq_getElem_cons h]; rfl
theorem wt_drop_le (a : List ByteArray) (i : Nat) : wt (LL (a.drop (i + 1))) ≤ wt (LL (a.drop i)) := by
 by_cases h : i < a.length
 ·rw [wt_drop a i h]; omega
 ·rw [List.drop_eq_nil_of_le (by omega), List.drop_eq_nil_of_le (by omega)]; exact Nat.le_refl _

theorem told_get (l : List ByteArray) (free : Bool) (f : ByteArray) (hl : wt (LL l) ≤ 4000000000) (hf : f.size ≤ 65536) :
  ∃ s ok, cover_told.f 70000 l free [f] = some (s, ok) ∧ Cr.told (LL l) free [Cr.bl f] = if ok = true then some (Cr.bl s) else none := by
 have h1 := wt_len (LL l)
 have h2 := wt_join (LL l)
 rw [LL_len] at h1
 exact told_f l [f] free (by intro x hx; simp at hx; subst hx; unfold big; omega) (by unfold big; simp) 65536 (by intro x hx; simp at hx; subst hx; exact hf) (by unfold big; omega) (by unfold big; omega) 70000 (by simp)

theorem raB_lt {a : List ByteArray} {i : Nat} (h : i < a.length) : raB a i = a.drop i := by unfold raB; rw [if_pos h]
theorem raB_ge {a : List ByteArray} {i : Nat} (h : ¬ i < a.length) : raB a i = if a.getLast? = some (ofT Cr.H) then [ofT Cr.H] else [] := by unfold raB; rw [if_neg h]
theorem okF_drop : ∀ (l : List Cr.T) (i : Nat), Cr.okF l = true → Cr.okF (l.drop i) = true
 | l, 0, h => by simpa using h
 | [], _ + 1, h => by simpa using h
 | x :: l, i + 1, h => by simpa using okF_drop l i (Cr.okF_cons h)
theorem LL_drop (a : List ByteArray) (i : Nat) : LL (a.drop i) = (LL a).drop i := by simp [LL, List.map_drop]
theorem last_of {a : List ByteArray} {i : Nat} (h : i + 1 = a.length) : a.getLast? = some a[i] := by
 rw [List.getLast?_eq_getElem?, show a.length - 1 = i by omega, List.getElem?_eq_getElem (by omega)]
theorem raB_nxt {a : List ByteArray} (hok : Cr.okF (LL a) = true) (i : Nat) : LL (raB a (i + 1)) = Cr.nxt (LL (raB a i)) := by
 by_cases h : i < a.length
 ·rw [raB_lt h, List.drop_eq_getElem_cons h]
  have hd := okF_drop _ i hok
  rw [← LL_drop, List.drop_eq_getElem_cons h] at hd
  by_cases h1 : i + 1 < a.length
  ·rw [raB_lt h1]
   have : Cr.bl a[i] ≠ Cr.H := by
    intro e
    have := Cr.okF_hash hd e
    have h2 : (LL (a.drop (i + 1))).length = 0 := by
     have := congrArg List.length this
     simpa using this
    rw [LL_len, List.length_drop] at h2
    omega
   show LL (a.drop (i + 1)) = Cr.nxt (Cr.bl a[i] :: LL (a.drop (i + 1)))
   rw [Cr.nxt, if_neg this]
  ·rw [raB_ge h1, last_of (i := i) (by omega)]
   show _ = Cr.nxt (Cr.bl a[i] :: LL (a.drop (i + 1)))
   rw [Cr.nxt]
   have hn : a.drop (i + 1) = [] := List.drop_eq_nil_of_le (by omega)
   by_cases e : Cr.bl a[i] = Cr.H
   ·rw [if_pos e, if_pos (by rw [← e, ofT_bl])]; rfl
   ·rw [if_neg e, if_neg (fun e2 => e (by rw [Option.some.inj e2, bl_ofT])), hn]
 ·rw [raB_ge h, raB_ge (by omega)]
  split <;> rfl
theorem least_nxt {a : List ByteArray} (hok : Cr.okF (LL a) = true) (i : Nat) : Cr.least (Cr.nxt (LL (raB a i))) = LL (restB a (i + 1)) := by
 rw [← raB_nxt hok, LL_restB]
 by_cases h1 : i + 1 < a.length
 ·rw [raB_lt h1]
 ·rw [raB_ge h1, List.drop_eq_nil_of_le (by omega)]
  split <;> rfl
theorem ends_eq {a : List ByteArray} {i : Nat} (hinv : i ≤ a.length ∨ a.getLast? = some (ofT Cr.H)) :
  endsP a i = decide (0 < i ∧ (LL (raB a i) = [] ∨ LL (raB a i) = [Cr.H])) := by
 unfold endsP
 by_cases h0 : 0 < i
 ·by_cases h : i < a.length
  ·have hne : ¬ i = a.length := by omega
   have e : (LL (raB a i) = [] ∨ LL (raB a i) = [Cr.H]) ↔ (a.getLast? = some (ofT Cr.H) ∧ a.length ≤ i + 1) := by
    rw [raB_lt h, List.drop_eq_getElem_cons h]
    show (Cr.bl a[i] :: LL (a.drop (i + 1)) = [] ∨ Cr.bl a[i] :: LL (a.drop (i + 1)) = [Cr.H]) ↔ _
    by_cases h1 : i + 1 = a.length
    ·rw [last_of h1, List.drop_eq_nil_of_le (by omega)]
     constructor
     ·rintro (e | e)
      ·cases e
      ·simp [LL] at e; exact ⟨by rw [← e, ofT_bl], by omega⟩
     ·rintro ⟨e, _⟩
      have e := Option.some.inj e
      right; rw [e]; rfl
    ·constructor
     ·rintro (e | e)
      ·cases e
      ·exfalso
       have := congrArg List.length e
       simp at this; omega
     ·rintro ⟨_, _⟩; omega
   have e2 : decide (0 < i ∧ (LL (raB a i) = [] ∨ LL (raB a i) = [Cr.H])) = decide (0 < i ∧ (a.getLast? = some (ofT Cr.H) ∧ a.length ≤ i + 1)) := decide_eq_decide.2 (and_congr_right fun _ => e)
   rw [e2]
   simp [h0, hne]
  ·rw [raB_ge h]
   rcases hinv with hinv | hinv
   ·have he : i = a.length := by omega
    have : (LL (if a.getLast? = some (ofT Cr.H) then [ofT Cr.H] else []) = [] ∨ LL (if a.getLast? = some (ofT Cr.H) then [ofT Cr.H] else []) = [Cr.H]) := by
     split
     ·right; rfl
     ·left; rfl
    rw [decide_eq_true (And.intro h0 this), decide_eq_true h0, decide_eq_true he]
    rfl
   ·rw [if_pos hinv]
    simp [h0, hinv, bl_ofT]
    omega
 ·simp [h0]

theorem leaves_eq {f : ByteArray} {a b own : List ByteArray} {i : Nat} (hok : Cr.okF (LL a) = true) (lev : ByteArray) (free : Bool) :
  Cr.leaves (Cr.bl f) (LL own) (LL (raB a i)) (b[i]?.map Cr.bl) (Cr.bl lev) free = Cr.told (LL (leavesL own a b i lev free)) false [Cr.bl f] := by
 unfold Cr.leaves leavesL
 rw [least_nxt hok]
 have e : LL own ++ Cr.bl lev :: LL (restB a (i + 1)) = LL (own ++ [lev] ++ restB a (i + 1)) := by simp [LL]
 rw [e]
 have e1 : (LL (own ++ [lev] ++ restB a (i + 1)) = [[]]) ↔ (own ++ [lev] ++ restB a (i + 1) = [⟨#[]⟩]) :=
  ⟨fun h => LL_inj (by rw [h]; rfl), fun h => by rw [h]; rfl⟩
 have e2 : (b[i]?.map Cr.bl = some [97]) ↔ (b[i]? = some (⟨#[97]⟩ : ByteArray)) := by
  constructor
  ·intro h
   obtain ⟨x, hx, hb⟩ := Option.map_eq_some_iff.1 h
   rw [hx, show x = ⟨#[97]⟩ from bl_inj hb]
  ·intro h; rw [h]; rfl
 by_cases h : own ++ [lev] ++ restB a (i + 1) = [⟨#[]⟩] ∧ free = true
 ·rw [if_pos ⟨e1.2 h.1, h.2⟩, if_pos h]
  by_cases h2 : b[i]? = some (⟨#[97]⟩ : ByteArray)
  ·rw [if_pos (e2.2 h2), if_pos h2]; rfl
  ·rw [if_neg (fun q => h2 (e2.1 q)), if_neg h2]; rfl
 ·rw [if_neg (fun q => h ⟨e1.1 q.1, q.2⟩), if_neg h]

theorem at_eq {a : List ByteArray} {i : Nat} {lev : ByteArray} {free ok : Bool} (h : atP a i = (lev, free, ok)) :
  (ok = false ∧ LL (raB a i) = []) ∨ (ok = true ∧ ∃ x r, LL (raB a i) = x :: r ∧ Cr.bl lev = (if Cr.sg x = true then [] else x) ∧ free = Cr.sg x) := by
 unfold atP at h
 split at h
 ·rename_i e
  simp only [Prod.mk.injEq] at h
  left; exact ⟨h.2.2.symm, by rw [e]; rfl⟩
 ·rename_i x r e
  right
  rw [e]
  split at h
  ·rename_i hs
   simp only [Prod.mk.injEq] at h
   exact ⟨h.2.2.symm, Cr.bl x, LL r, rfl, by rw [if_pos hs, ← h.1], by rw [hs]; exact h.2.1.symm⟩
  ·rename_i hs
   simp only [Prod.mk.injEq] at h
   exact ⟨h.2.2.symm, Cr.bl x, LL r, rfl, by rw [if_neg hs, ← h.1], by rw [← h.2.1]; simpa using hs⟩
theorem lev_wt {a : List ByteArray} {i : Nat} {lev : ByteArray} {free ok : Bool} (h : atP a i = (lev, free, ok)) : (Cr.bl lev).length + 1 + wt (LL (a.drop (i + 1))) ≤ wt (LL (a.drop i)) + 1 ∧ (i < a.length → (Cr.bl lev).length + 1 + wt (LL (a.drop (i + 1))) ≤ wt (LL (a.drop i))) ∧ (¬ i < a.length → Cr.bl lev = []) := by
 by_cases hi : i < a.length
 ·rw [wt_drop a i hi]
  have : (Cr.bl lev).length ≤ (Cr.bl a[i]).length := by
   unfold atP at h
   rw [raB_lt hi, List.drop_eq_getElem_cons hi] at h
   simp only [] at h
   split at h <;> (simp only [Prod.mk.injEq] at h; rw [← h.1]; first | exact Nat.le_refl _ | exact Nat.zero_le _)
  exact ⟨by omega, fun _ => by omega, fun q => absurd hi q⟩
 ·have : Cr.bl lev = [] := by
   unfold atP at h
   rw [raB_ge hi] at h
   split at h
   ·simp only [Prod.mk.injEq] at h; rw [← h.1]
   ·rename_i x r e
    split at e
    ·simp only [List.cons.injEq] at e
     obtain ⟨rfl, _⟩ := e
     rw [if_pos (by rfl)] at h
     simp only [Prod.mk.injEq] at h; rw [← h.1]
    ·cases e
  rw [this, List.drop_eq_nil_of_le (by omega), List.drop_eq_nil_of_le (by omega)]
  exact ⟨by simp [wt], fun q => absurd q hi, fun _ => rfl⟩
theorem leavesL_wt {a b own : List ByteArray} {i : Nat} {lev : ByteArray} {free : Bool} {m : Nat} (h : (Cr.bl lev).length + 1 + wt (LL (a.drop (i + 1))) ≤ m) : wt (LL (leavesL own a b i lev free)) ≤ wt (LL own) + m + 2 := by
 unfold leavesL
 have h2 := wt_least (LL (a.drop (i + 1)))
 have h3 : wt (LL (own ++ [lev] ++ restB a (i + 1))) = wt (LL own) + ((Cr.bl lev).length + 1) + wt (Cr.least (LL (a.drop (i + 1)))) := by
  rw [← LL_restB]; simp [LL, wt_append, wt]; omega
 split
 ·split
  ·show wt [[98]] ≤ _; simp [wt]
  ·show wt [[97]] ≤ _; simp [wt]
 ·omega

theorem os_end {f : ByteArray} {a own : List ByteArray} {i : Nat} {s0 : Bool} {lev : ByteArray} {free ok : Bool} (h : atP a i = (lev, free, ok)) :
  Cr.osearch (Cr.bl f) s0 [] (LL (raB a i)) (LL own) = if ok = true then Cr.leaves (Cr.bl f) (LL own) (LL (raB a i)) none (Cr.bl lev) free else none := by
 rcases at_eq h with ⟨rfl, e⟩ | ⟨rfl, x, r, e, h1, h2⟩
 ·rw [e]; rfl
 ·rw [e, h1, h2]; rfl
theorem os_step {f : ByteArray} {a b own : List ByteArray} {i : Nat} {s0 : Bool} {lev : ByteArray} {free ok : Bool} (hok : Cr.okF (LL a) = true) (h : atP a i = (lev, free, ok)) (hi : i < b.length) :
  Cr.osearch (Cr.bl f) s0 (LL (b.drop i)) (LL (raB a i)) (LL own) = match Cr.endsHere (LL own) (LL (raB a i)) s0 (Cr.bl b[i]) with
   | some s => some s
   | none => if ok = false then none else if Cr.bl b[i] = Cr.H then none else
    if Cr.bl b[i] = Cr.P then Cr.osearch (Cr.bl f) s0 (LL (b.drop (i + 1))) (LL (raB a (i + 1))) (LL (own ++ [lev]))
    else if free = true then
     match Cr.leaves (Cr.bl f) (LL own) (LL (raB a i)) (some (Cr.bl b[i])) (Cr.other (Cr.bl b[i])) true with
     | some s => some s
     | none => if own = [] ∧ Cr.dol (Cr.bl b[i]) = true then none else Cr.osearch (Cr.bl f) s0 (LL (b.drop (i + 1))) (LL (raB a (i + 1))) (LL (own ++ [b[i]]))
    else if lev = b[i] then Cr.osearch (Cr.bl f) s0 (LL (b.drop (i + 1))) (LL (raB a (i + 1))) (LL (own ++ [lev]))
    else Cr.leaves (Cr.bl f) (LL own) (LL (raB a i)) (some (Cr.bl b[i])) (Cr.bl lev) false := by
 rw [raB_nxt hok]
 rw [List.drop_eq_getElem_cons hi]
 show Cr.osearch (Cr.bl f) s0 (Cr.bl b[i] :: LL (b.drop (i + 1))) _ _ = _
 have ho : ∀ x : ByteArray, LL (own ++ [x]) = LL own ++ [Cr.bl x] := fun x => by simp [LL]
 have hown : (LL own = []) ↔ own = [] := by simp [LL]
 rw [ho, ho]
 rcases at_eq h with ⟨rfl, e⟩ | ⟨rfl, x, r, e, h1, h2⟩
 ·rw [e]
  cases hE : Cr.endsHere (LL own) [] s0 (Cr.bl b[i]) with
  | some s => rw [Cr.osearch, hE]
  | none => rw [Cr.osearch, hE]; rfl
 ·rw [e]
  cases hE : Cr.endsHere (LL own) (x :: r) s0 (Cr.bl b[i]) with
  | some s => rw [Cr.osearch, hE]
  | none =>
   rw [Cr.osearch, hE]
   simp only [Bool.true_eq_false, if_false]
   rw [h1, h2]
   by_cases hH : Cr.bl b[i] = Cr.H
   ·rw [if_pos hH, if_pos hH]
   ·rw [if_neg hH, if_neg hH]
    by_cases hP : Cr.bl b[i] = Cr.P
    ·rw [if_pos hP, if_pos hP]
    ·rw [if_neg hP, if_neg hP]
     cases hs : Cr.sg x with
     | true =>
      simp only [if_true]
      cases Cr.leaves (Cr.bl f) (LL own) (x :: r) (some (Cr.bl b[i])) (Cr.other (Cr.bl b[i])) true with
      | some s => rfl
      | none =>
       simp only []
       by_cases hd : own = [] ∧ Cr.dol (Cr.bl b[i]) = true
       ·rw [if_pos hd, if_pos ⟨hown.2 hd.1, hd.2⟩]
       ·rw [if_neg hd, if_neg (fun q => hd ⟨hown.1 q.1, q.2⟩)]
     | false =>
      simp only [Bool.false_eq_true, if_false]
      rw [hs] at h1
      simp only [Bool.false_eq_true, if_false] at h1
      by_cases hxy : x = Cr.bl b[i]
      ·rw [if_pos hxy, if_pos (bl_inj (by rw [h1, hxy]))]
      ·rw [if_neg hxy, if_neg (by rintro rfl; exact hxy h1.symm)]

theorem other_f (x : ByteArray) : cover_other.f x = some (ofT (Cr.other (Cr.bl x))) := by
 unfold cover_other.f Cr.other
 rw [tl]
 split <;> rfl
theorem dollar_f (x : ByteArray) : cover_dollar.f x = some (Cr.dol (Cr.bl x)) := by
 unfold cover_dollar.f strings_HasPrefix.f stringslite_HasPrefix.f
 have hsz : (x.size : Int) = ((Cr.bl x).length : Int) := by rw [Cr.bl_len]
 have h1 : ((⟨#[36]⟩ : ByteArray).size : Int) = 1 := rfl
 rw [h1, hsz]
 cases hb : Cr.bl x with
 | nil => rfl
 | cons c r =>
  have e : (((x.extract 0 ((1 : Int)).toNat).toList == (⟨#[36]⟩ : ByteArray).toList) : Bool) = (some c == some (36 : UInt8)) := by
   rw [tl, tl, bl_extract, hb]
   show ([c] == [36]) = _
   by_cases hc : c = 36
   ·subst hc; rfl
   ·rw [beq_eq_false_iff_ne.2 (by simpa using hc), beq_eq_false_iff_ne.2 (by simpa using hc)]
  rw [if_pos (by simp; omega)]
  simp only [Option.bind_some]
  rw [e]
  rfl

theorem leaves_get {f : ByteArray} {a b own : List ByteArray} {i : Nat} (hok : Cr.okF (LL a) = true) (lev : ByteArray) (free : Bool) {m : Nat} (h : (Cr.bl lev).length + 1 + wt (LL (a.drop (i + 1))) ≤ m) (hm : wt (LL own) + m ≤ 1000000) (hf : f.size ≤ 65536) :
  ∃ s ok, cover_told.f 70000 (leavesL own a b i lev free) false [f] = some (s, ok) ∧ Cr.leaves (Cr.bl f) (LL own) (LL (raB a i)) (b[i]?.map Cr.bl) (Cr.bl lev) free = if ok = true then some (Cr.bl s) else none := by
 rw [leaves_eq hok]
 exact told_get _ false f (by have := leavesL_wt (own := own) (b := b) (free := free) h; omega) hf
theorem at_inv {a : List ByteArray} {i : Nat} {lev : ByteArray} {free : Bool} (h : atP a i = (lev, free, true)) : i + 1 ≤ a.length ∨ a.getLast? = some (ofT Cr.H) := by
 by_cases hi : i < a.length
 ·left; omega
 ·right
  rcases at_eq h with ⟨e, _⟩ | ⟨_, x, r, e, _⟩
  ·cases e
  ·rw [raB_ge hi] at e
   split at e
   ·assumption
   ·cases e
theorem next_lev {a b own : List ByteArray} {i : Nat} {lev : ByteArray} {free ok : Bool} (h : atP a i = (lev, free, ok)) (hib : i < b.length) {m : Nat} (hw : wt (LL own) + wt (LL (a.drop i)) + wt (LL (b.drop i)) ≤ m) :
  wt (LL (own ++ [lev])) + wt (LL (a.drop (i + 1))) + wt (LL (b.drop (i + 1))) ≤ m := by
 have e : wt (LL (own ++ [lev])) = wt (LL own) + ((Cr.bl lev).length + 1) := by simp [LL, wt_append, wt]
 obtain ⟨_, h2, h3⟩ := lev_wt h
 rw [wt_drop b i hib] at hw
 have h4 := wt_drop_le a i
 rw [e]
 by_cases hi : i < a.length
 ·have := h2 hi; omega
 ·have h5 := h3 hi
  have h6 : (Cr.bl lev).length = 0 := by rw [h5]; rfl
  omega
theorem next_y {a b own : List ByteArray} {i : Nat} (hib : i < b.length) {m : Nat} (hw : wt (LL own) + wt (LL (a.drop i)) + wt (LL (b.drop i)) ≤ m) :
  wt (LL (own ++ [b[i]])) + wt (LL (a.drop (i + 1))) + wt (LL (b.drop (i + 1))) ≤ m := by
 have e : wt (LL (own ++ [b[i]])) = wt (LL own) + ((Cr.bl b[i]).length + 1) := by simp [LL, wt_append, wt]
 rw [wt_drop b i hib] at hw
 have h4 := wt_drop_le a i
 rw [e]; omega
theorem other_len (y : Cr.T) : (Cr.other y).length ≤ 1 := by unfold Cr.other; split <;> simp
end Go.Proofs.YtfomjbbebgajcaaGreatDoor.Giv
