/- The search for a topic outside: what (*outside).at, ends and rest compute. -/
import Derived.Test.YtamelcgamlcliaaBr
namespace Go.Proofs.Ytamelcgamlcliaa.Giv
open Go.RowKit Go.Proofs.YtamelcgamlcliaaW.PrintWords Go.Proofs.YtamelcgamlcliaaW.PrintLast Go.Proofs.YtamelcgamlcliaaW.PrintMore Go.Proofs.Ytamelcgamlcliaa.MCoverTopics
set_option linter.unusedVariables false
set_option linter.unusedSimpArgs false

/-- the object of the search at block g -/
def Ob (w : World) (g : Nat) (f : ByteArray) (A1 : Option Addr) (c1 : Nat) (a : List ByteArray) (A2 : Option Addr) (c2 : Nat) (b : List ByteArray) (v3 : Value) : Prop :=
  w.heap[g]? = some (.cells #[.string f, .slice A1 a.length c1, .slice A2 b.length c2, v3] 43 (0, 0))
theorem Ob.cell1 {w : World} {g : Nat} {f : ByteArray} {A1 : Option Addr} {c1 : Nat} {a : List ByteArray} {A2 : Option Addr} {c2 : Nat} {b : List ByteArray} {v3 : Value} (h : Ob w g f A1 c1 a A2 c2 b v3) :
    w.cell? ⟨g, 0, none⟩ = some (.string f) ∧ w.cell? ⟨g, 1, none⟩ = some (.slice A1 a.length c1) ∧ w.cell? ⟨g, 2, none⟩ = some (.slice A2 b.length c2) ∧ w.cell? ⟨g, 3, none⟩ = some v3 :=
  ⟨blk_cell h 0, blk_cell h 1, blk_cell h 2, blk_cell h 3⟩

theorem Ob.below {w w1 : World} {g : Nat} {f : ByteArray} {A1 : Option Addr} {c1 : Nat} {a : List ByteArray} {A2 : Option Addr} {c2 : Nat} {b : List ByteArray} {v3 : Value} (h : Ob w g f A1 c1 a A2 c2 b v3) (hb : Below w.heap.size w w1) : Ob w1 g f A1 c1 a A2 c2 b v3 := blk_below h hb
theorem sign_f (x : ByteArray) : cover_sign.f x = some (Cr.sg (Cr.bl x)) := by
  unfold cover_sign.f
  rw [tl]
  by_cases h : Cr.bl x = [43]
  · rw [if_pos h]; simp [Cr.sg, h]
  · rw [if_neg h]
    congr 1
    have : (Cr.bl x == Cr.P) = false := by simpa using h
    simp [Cr.sg, this]
theorem C_at {w : World} {A : Option Addr} {l : List ByteArray} (h : Kd.C Kd.string w A l.length l) (i : Nat) (hi : i < l.length) : ∃ ad, A = some ad ∧ w.cell? (ad.add i) = some (.string l[i]) := by
  obtain ⟨ad, e, hc⟩ := Kd.at_string h (i : Int) (by omega) (by omega)
  rw [rd_at l i hi, Int.toNat_natCast] at hc
  exact ⟨ad, e, hc⟩

/-- f's levels from a place on, # for all that follow it -/
def raB (a : List ByteArray) (i : Nat) : List ByteArray := if i < a.length then a.drop i else if a.getLast? = some (ofT Cr.H) then [ofT Cr.H] else []
def atP (a : List ByteArray) (i : Nat) : ByteArray × Bool × Bool :=
  match raB a i with
  | [] => (⟨#[]⟩, false, false)
  | x :: _ => if Cr.sg (Cr.bl x) = true then (⟨#[]⟩, true, true) else (x, false, true)

set_option maxHeartbeats 8000000 in
set_option maxRecDepth 100000 in
theorem at_calls (g : Nat) (f : ByteArray) (A1 : Option Addr) (c1 : Nat) (a : List ByteArray) (A2 : Option Addr) (c2 : Nat) (b : List ByteArray) (v3 : Value) (i : Nat) (hi : i ≤ 4294967290) (ha : 0 < a.length) (hal : a.length ≤ 4294967290) (w : World)
    (hO : Ob w g f A1 c1 a A2 c2 b v3) (hC : Kd.C Kd.string w A1 a.length a) (r1 : ByteArray) (r2 r3 : Bool) (hr : atP a i = (r1, r2, r3)) :
    Calls Try.prog 33 #[.pointer (some ⟨g, 0, none⟩), .int .i64 i] w fun e w' => e = .returned (.tuple #[.string r1, .bool r2, .bool r3]) ∧ Drawn0 w w' := by
  obtain ⟨hc0, hc1, hc2, hc3⟩ := hO.cell1
  have HC := Aside0.mk hC
  clear hO hC hc2 hc3 hc0
  by_cases hlt : i < a.length
  · obtain ⟨ad, rfl, hx⟩ := C_at HC.out i hlt
    have hp : atP a i = if Cr.sg (Cr.bl a[i]) = true then (⟨#[]⟩, true, true) else (a[i], false, true) := by
      unfold atP raB
      rw [if_pos hlt, List.drop_eq_getElem_cons hlt]
    rw [hp] at hr
    have A1 := Aside0.mk (sign_f a[i])
    obtain ⟨x, hxx⟩ : ∃ x, a[i] = x := ⟨_, rfl⟩
    rw [hxx] at hr hx A1
    clear hp hxx
    have hltb : ¬ (a.length ≤ i) := by omega
    cases hs : Cr.sg (Cr.bl x)
    · rw [hs] at A1 hr
      simp only [Bool.false_eq_true, if_false, Prod.mk.injEq] at hr
      obtain ⟨rfl, rfl, rfl⟩ := hr
      clear hs
      go_enter Try.func33, Try.ntmps33
      go_wp2_with (go_at_call 18; (with_reducible refine (cover_sign.calls x false _ A1.out).mono ?_); rintro e w' ⟨rfl, ⟨nd, rfl⟩⟩)
      go_ret3
      exact ⟨rfl, by repeat (first | exact Drawn0.refl _ | apply Drawn0.step)⟩
    · rw [hs] at A1 hr
      simp only [if_true, Prod.mk.injEq] at hr
      obtain ⟨rfl, rfl, rfl⟩ := hr
      clear hs
      go_enter Try.func33, Try.ntmps33
      go_wp2_with (go_at_call 18; (with_reducible refine (cover_sign.calls x true _ A1.out).mono ?_); rintro e w' ⟨rfl, ⟨nd, rfl⟩⟩)
      go_ret3
      exact ⟨rfl, by repeat (first | exact Drawn0.refl _ | apply Drawn0.step)⟩
  · have hla : a.length - 1 < a.length := by omega
    obtain ⟨ad, rfl, hx⟩ := C_at HC.out (a.length - 1) hla
    have hlast : a.getLast? = some a[a.length - 1] := by rw [List.getLast?_eq_getElem?, List.getElem?_eq_getElem hla]
    obtain ⟨x, hxx⟩ : ∃ x, a[a.length - 1] = x := ⟨_, rfl⟩
    rw [hxx] at hlast hx
    have hp : atP a i = if Cr.bl x = Cr.H then (⟨#[]⟩, true, true) else (⟨#[]⟩, false, false) := by
      unfold atP raB
      rw [if_neg hlt, hlast]
      by_cases hh : Cr.bl x = Cr.H
      · have : x = ofT Cr.H := bl_inj hh
        rw [if_pos hh, this]; rfl
      · have : ¬ (some x = some (ofT Cr.H)) := by rintro e; cases e; exact hh rfl
        rw [if_neg hh, if_neg this]
    rw [hp] at hr
    clear hp hlast hxx
    have e1 : ((a.length : Int) - 1).toNat = a.length - 1 := by omega
    have hge : a.length ≤ i := by omega
    by_cases hh : Cr.bl x = Cr.H
    · rw [if_pos hh] at hr
      simp only [Prod.mk.injEq] at hr
      obtain ⟨rfl, rfl, rfl⟩ := hr
      have hb : (x.toList == ([35] : List UInt8)) = true := by rw [tl, hh]; rfl
      clear hh
      go_enter Try.func33, Try.ntmps33
      go_wp2
      go_ret3
      exact ⟨rfl, by repeat (first | exact Drawn0.refl _ | apply Drawn0.step)⟩
    · rw [if_neg hh] at hr
      simp only [Prod.mk.injEq] at hr
      obtain ⟨rfl, rfl, rfl⟩ := hr
      have hb : (x.toList == ([35] : List UInt8)) = false := by rw [tl, beq_eq_false_iff_ne]; exact hh
      clear hh
      go_enter Try.func33, Try.ntmps33
      go_wp2
      go_ret3
      exact ⟨rfl, by repeat (first | exact Drawn0.refl _ | apply Drawn0.step)⟩
def endsP (a : List ByteArray) (i : Nat) : Bool := decide (0 < i) && (decide (i = a.length) || (decide (a.getLast? = some (ofT Cr.H)) && decide (a.length ≤ i + 1)))
set_option maxHeartbeats 8000000 in
set_option maxRecDepth 100000 in
theorem ends_calls (g : Nat) (f : ByteArray) (A1 : Option Addr) (c1 : Nat) (a : List ByteArray) (A2 : Option Addr) (c2 : Nat) (b : List ByteArray) (v3 : Value) (i : Nat) (hi : i ≤ 4294967290) (ha : 0 < a.length) (hal : a.length ≤ 4294967290) (w : World)
    (hO : Ob w g f A1 c1 a A2 c2 b v3) (hC : Kd.C Kd.string w A1 a.length a) (r : Bool) (hr : endsP a i = r) :
    Calls Try.prog 32 #[.pointer (some ⟨g, 0, none⟩), .int .i64 i] w fun e w' => e = .returned (.bool r) ∧ Drawn0 w w' := by
  obtain ⟨hc0, hc1, hc2, hc3⟩ := hO.cell1
  have hla : a.length - 1 < a.length := by omega
  obtain ⟨ad, rfl, hx⟩ := C_at hC (a.length - 1) hla
  have hlast : a.getLast? = some a[a.length - 1] := by rw [List.getLast?_eq_getElem?, List.getElem?_eq_getElem hla]
  obtain ⟨x, hxx⟩ : ∃ x, a[a.length - 1] = x := ⟨_, rfl⟩
  rw [hxx] at hlast hx
  have hH : (a.getLast? = some (ofT Cr.H)) ↔ Cr.bl x = Cr.H := by
    rw [hlast]
    constructor
    · rintro e; cases e; rfl
    · intro e; rw [show x = ofT Cr.H from bl_inj e]
  clear hO hC hc2 hc3 hc0 hxx hlast
  have e1 : ((a.length : Int) - 1).toNat = a.length - 1 := by omega
  have hr0 : (decide (0 < i) && (decide (i = a.length) || (decide (Cr.bl x = Cr.H) && decide (a.length ≤ i + 1)))) = r := by rw [← hr]; unfold endsP; rw [decide_eq_decide.2 hH]
  clear hr
  have hr := hr0
  clear hH hr0
  by_cases h0 : 0 < i
  · have h0b := eq_true h0
    by_cases he : i = a.length
    · subst he
      have hr' : r = true := by rw [← hr]; simp; omega
      subst hr'
      clear hr
      go_enter Try.func32, Try.ntmps32
      go_wp2
      go_ret
      exact ⟨by first | rfl | (simp; done), by repeat (first | exact Drawn0.refl _ | apply Drawn0.step)⟩
    · have heb : ((i : Int) == (a.length : Int)) = false := beq_eq_false_iff_ne.mpr (by omega)
      have heb' : (i == a.length) = false := beq_eq_false_iff_ne.mpr he
      have hab := eq_true ha
      by_cases hh : Cr.bl x = Cr.H
      · have hb : (x.toList == ([35] : List UInt8)) = true := by rw [tl, hh]; rfl
        have hr' : r = decide (a.length ≤ i + 1) := by rw [← hr]; simp [h0, he, hh]
        clear hr
        by_cases hq : a.length ≤ i + 1
        · have hqb := eq_true (show (a.length : Int) - 1 ≤ i by omega)
          rw [decide_eq_true hq] at hr'
          subst hr'
          clear hh
          go_enter Try.func32, Try.ntmps32
          go_wp2
          go_ret
          exact ⟨by first | rfl | (simp; done), by repeat (first | exact Drawn0.refl _ | apply Drawn0.step)⟩
        · have hqb := eq_false (show ¬ ((a.length : Int) - 1 ≤ i) by omega)
          rw [decide_eq_false hq] at hr'
          subst hr'
          clear hh
          go_enter Try.func32, Try.ntmps32
          go_wp2
          go_ret
          exact ⟨by first | rfl | (simp; done), by repeat (first | exact Drawn0.refl _ | apply Drawn0.step)⟩
      · have hb : (x.toList == ([35] : List UInt8)) = false := by rw [tl, beq_eq_false_iff_ne]; exact hh
        have hr' : r = false := by rw [← hr]; simp [he, hh]
        subst hr'
        clear hh hr
        go_enter Try.func32, Try.ntmps32
        go_wp2
        go_ret
        exact ⟨by first | rfl | (simp; done), by repeat (first | exact Drawn0.refl _ | apply Drawn0.step)⟩
  · have hr' : r = false := by rw [← hr]; simp [h0]
    subst hr'
    obtain rfl : i = 0 := by omega
    clear hr h0
    go_enter Try.func32, Try.ntmps32
    go_wp2
    go_ret
    exact ⟨by first | rfl | (simp; done), by repeat (first | exact Drawn0.refl _ | apply Drawn0.step)⟩

def restB (a : List ByteArray) (i : Nat) : List ByteArray := (Cr.least (LL (a.drop i))).map ofT
theorem LL_map_ofT (l : List Cr.T) : LL (l.map ofT) = l := by
  unfold LL
  rw [List.map_map]
  conv => rhs; rw [← List.map_id l]
  exact List.map_congr_left fun x _ => rfl
theorem LL_restB (a : List ByteArray) (i : Nat) : LL (restB a i) = Cr.least (LL (a.drop i)) := LL_map_ofT _
theorem least_len : ∀ l : List Cr.T, (Cr.least l).length ≤ l.length
  | [] => Nat.le_refl _
  | x :: l => by
    unfold Cr.least
    split
    · simp
    · have := least_len l; simp; omega
theorem restB_len (a : List ByteArray) (i : Nat) : (restB a i).length ≤ a.length := by
  have := least_len (LL (a.drop i))
  rw [← LL_restB, LL_len, LL_len, List.length_drop] at this; omega

set_option maxHeartbeats 8000000 in
set_option maxRecDepth 100000 in
theorem rest_calls (g : Nat) (f : ByteArray) (A1 : Option Addr) (c1 : Nat) (a : List ByteArray) (A2 : Option Addr) (c2 : Nat) (b : List ByteArray) (v3 : Value) (i : Nat) (hi : i ≤ 4294967290) (hal : a.length ≤ 4294967280) (w : World)
    (hO : Ob w g f A1 c1 a A2 c2 b v3) (hC : Kd.C Kd.string w A1 a.length a) (hcap : a.length ≤ c1) :
    Calls Try.prog 50 #[.pointer (some ⟨g, 0, none⟩), .int .i64 i] w fun e w' => ∃ v, e = .returned v ∧ Kd.R Kd.string 9 w' w.heap.size (fun _ => True) v (restB a i) ∧ Below w.heap.size w w' := by
  obtain ⟨hc0, hc1, hc2, hc3⟩ := hO.cell1
  clear hO hc2 hc3 hc0
  by_cases hlt : i < a.length
  · obtain ⟨r, hf, hr, hrl⟩ := least_f (a.drop i) (by simp; unfold big; omega) (a.length + 1) (by simp; omega)
    have A0 := Aside0.mk hf
    have HR := Aside0.mk hr
    have HRL := Aside0.mk (show r.length ≤ a.length by simp at hrl; omega)
    clear hf hr hrl
    obtain ⟨i0, hi0, _, hsz, _⟩ := info_parts info9
    have hcut := cut_from (P := Try.prog) 27 9 .i64 Try.underlying27 hi0 1 hsz A1 a.length c1 (i : Int) (by omega) (by omega)
    have hr1 := Kd.C_drop (m := ((i : Int)).toNat) (c := c1) hC (by omega) hcap
    simp only [Int.toNat_natCast] at hcut hr1
    obtain ⟨A', hA'⟩ : ∃ A1', A1' = (if c1 = i then A1 else (A1 : Option Addr).map (·.add (i * 1))) := ⟨_, rfl⟩
    obtain ⟨c', hc'⟩ : ∃ c1', c1' = c1 - i := ⟨_, rfl⟩
    obtain ⟨y, hy⟩ : ∃ y, a.drop i = y := ⟨_, rfl⟩
    have hyl : y.length = a.length - i := by rw [← hy, List.length_drop]
    rw [hy] at hr1 A0 HR
    replace hr1 : Kd.C Kd.string w A' y.length y := by rw [hA']; exact hr1
    rw [← hyl, ← hA', ← hc'] at hcut
    have HR1 := Aside0.mk hr1
    have HC1 := Aside0.mk (show y.length ≤ c' by omega)
    have HY := Aside0.mk hy
    clear hr1 hi0 hsz hA' hc' hy hyl hC
    have hge : ¬ (a.length ≤ i) := by omega
    go_enter Try.func50, Try.ntmps50
    go_wp2_with (go_at_call 20; (with_reducible refine (cover_least.calls (a.length + 1) _ _ y r _ ?side1 ?side2 A0.out).mono ?_); (case side1 => exact HR1.out); (case side2 => exact HC1.out); rintro e w' ⟨v, rfl, ho, hb⟩)
    go_ret
    exact ⟨_, rfl, by rw [show restB a i = r from LL_inj (by rw [LL_restB, HY.out, HR.out])]; exact ho, hb⟩
  · have hge : a.length ≤ i := by omega
    go_enter Try.func50, Try.ntmps50
    go_wp2
    go_ret
    exact ⟨_, rfl, by rw [show restB a i = [] by unfold restB; rw [List.drop_eq_nil_of_le hge]; rfl]; exact Kd.R_nil _ _ _ _ _, Below.refl _ _⟩
theorem C_one {W : World} {b : Nat} {x : ByteArray} (h : W.cell? ⟨b, 0, none⟩ = some (.string x)) : Kd.C Kd.string W (some ⟨b, 0, none⟩) [x].length [x] := by
  refine ⟨rfl, by simp, fun _ => ⟨_, rfl, fun j p hj => ?_⟩⟩
  have hj0 : j = 0 := by
    have := (List.getElem?_eq_some_iff.1 hj).1
    simp at this; exact this
  subst hj0
  simp at hj
  subst hj
  refine ⟨[.string x], rfl, rfl, fun i u hu => ?_⟩
  have hi0 : i = 0 := by
    have := (List.getElem?_eq_some_iff.1 hu).1
    simp at this; exact this
  subst hi0
  simp at hu
  subst hu
  simpa [Addr.add] using h

theorem R_addr {e : Nat} {W : World} {base : Nat} {ok : Nat → Prop} {v : Value} {xs : List ByteArray} (h : Kd.R Kd.string e W base ok v xs) (hx : xs ≠ []) : ∃ g cap, v = .slice (some ⟨g, 0, none⟩) xs.length cap ∧ base ≤ g := by
  obtain ⟨inner, ho⟩ := Kd.R_own h
  rcases ho.2 with ⟨hv, hn⟩ | ⟨g, cap, cur, rfl, hg, _⟩
  · exfalso
    exact hx (List.length_eq_zero_iff.1 hn)
  · exact ⟨g, cap, rfl, hg⟩

theorem put1 {e : Nat} {W : World} {B : Nat} {ok : Nat → Prop} {g c : Nat} {z : ByteArray} (h : Kd.R Kd.string e W B ok (.slice (some ⟨g, 0, none⟩) 1 c) [z]) (x : ByteArray) : Kd.R Kd.string e (W.setCell ⟨g, 0, none⟩ (.string x)) B ok (.slice (some ⟨g, 0, none⟩) 1 c) [x] := (Kd.R_put h 0 x).1

theorem read_below {w w1 : World} (hb : Below w.heap.size w w1) {a : Addr} {v : Value} (hc : w.cell? a = some v) : w1.cell? a = some v := (hb.cell (World.block_lt_of_cell? w a hc)).trans hc

theorem put1f {e : Nat} {W : World} {B : Nat} {ok : Nat → Prop} {g c : Nat} {z : ByteArray} (h : Kd.R Kd.string e W B ok (.slice (some ⟨g, 0, none⟩) 1 c) [z]) : W.frozen? ⟨g, 0, none⟩ = false := (Kd.R_cell (⟨#[]⟩ : ByteArray) h 0 (by decide) (Int.ofNat_lt.2 (Nat.zero_lt_succ 0))).2

def leavesL (own a b : List ByteArray) (i : Nat) (lev : ByteArray) (free : Bool) : List ByteArray :=
  if own ++ [lev] ++ restB a (i + 1) = [⟨#[]⟩] ∧ free = true then (if b[i]? = some (⟨#[97]⟩ : ByteArray) then [(⟨#[98]⟩ : ByteArray)] else [(⟨#[97]⟩ : ByteArray)]) else own ++ [lev] ++ restB a (i + 1)

set_option maxHeartbeats 8000000 in
set_option maxRecDepth 100000 in
theorem leaves_calls (g : Nat) (f : ByteArray) (A1 : Option Addr) (c1 : Nat) (a : List ByteArray) (A2 : Option Addr) (c2 : Nat) (b : List ByteArray) (A3 : Option Addr) (c3 : Nat) (own : List ByteArray) (i : Nat) (hi : own.length = i) (hib : i ≤ 4294967280) (hal : a.length ≤ 4294967280) (w : World)
    (hO : Ob w g f A1 c1 a A2 c2 b (.slice A3 own.length c3)) (hC : Kd.C Kd.string w A1 a.length a) (hcap : a.length ≤ c1) (hC2 : Kd.C Kd.string w A2 b.length b) (hC3 : Kd.C Kd.string w A3 own.length own) (hcap3 : own.length ≤ c3)
    (lev : ByteArray) (free : Bool) (K : Nat) (s : ByteArray) (ok : Bool) (ht : cover_told.f K (leavesL own a b i lev free) false [f] = some (s, ok)) :
    Calls Try.prog 34 #[.pointer (some ⟨g, 0, none⟩), .int .i64 i, .string lev, .bool free] w fun e w' => e = .returned (.tuple #[.string s, .bool ok]) ∧ Below w.heap.size w w' := by
  subst hi
  obtain ⟨hc0, hc1, hc2, hc3⟩ := hO.cell1
  have HO := Aside0.mk hO
  have HC := Aside0.mk hC
  have HC2 := Aside0.mk hC2
  have HC3 := Aside0.mk hC3
  have HT := Aside0.mk ht
  have HB0 := Aside0.mk (Below.refl w.heap.size w)
  have hrl := restB_len a (own.length + 1)
  clear hO hC hC2 hC3 ht
  have hcut := cut_to (P := Try.prog) 27 9 .i64 Try.underlying27 (info_parts info9).choose_spec.1 A3 own.length c3 (own.length : Int) (by omega) (by omega) hcap3
  simp only [Int.toNat_natCast] at hcut
  go_enter Try.func34, Try.ntmps34
  go_wp2_with (first | ((with_reducible refine gate_builtin (b := .append) (xs := #[.const (.slice none 0 0), .tmp 16]) rfl ?_); at_builtin; refine Kd.R_append_rows Kd.string (w0 := w) w.heap.size rfl (.const (.slice none 0 0)) (.tmp 16) 27 9 (.string ⟨#[]⟩) 16 rfl Try.underlying27 info9 rfl (by decide) (by omega) (.slice none 0 0) [] own _ _ _ (fun _ => True) (fun _ => False) rfl rfl (Kd.R_nil _ _ _ _ _) HC3.out (fun _ _ h => h) (fun _ h => h.elim) (fun _ _ => trivial) HB0.out (Nat.le_refl _) ?aL ?_; (case aL => simp; omega); intro v1 w1 ho hb hg hat; rw [List.nil_append] at ho; have HO1 := Aside0.mk ho; have HB1 := Aside0.mk hb; clear ho hb hg hat) | ((with_reducible refine gate_builtin (b := .append) (xs := #[.tmp 17, .tmp 19]) rfl ?_); at_builtin; refine Kd.R_append Kd.string (w0 := w) w.heap.size rfl (.tmp 17) (.tmp 19) 27 9 (.string ⟨#[]⟩) 16 rfl Try.underlying27 info9 rfl (by decide) (by omega) v1 own lev [.string lev] (fun _ => True) (fun _ => False) rfl rfl ?aP (fun _ hk => hk.elim) ?aF ?aO ?aB ?aS ?aL ?_; (case aP => exact rfl); (case aB => exact HB1.out); (case aF => exact (fun _ _ => trivial)); (case aO => exact HO1.out); (case aS => exact below_size HB1.out); (case aL => omega); intro v2 w2 ho hb hg hat; have HO2 := Aside0.mk ho; have HB2 := Aside0.mk hb; clear ho hb hg hat HO1 HB1))
  have hrc := rest_calls g f A1 c1 a A2 c2 b (.slice A3 own.length c3) (own.length + 1) (by omega) hal w2 (blk_below HO.out HB2.out) (Kd.C_below HC.out HB2.out) hcap
  rw [show ((own.length + 1 : Nat) : Int) = (own.length : Int) + 1 by omega] at hrc
  refine hrc.mono ?_
  clear hrc
  rintro e w3 ⟨v3, rfl, ho3, hb3⟩
  have HB3 := Aside0.mk (below_step HB2.out hb3)
  have HO3 := Aside0.mk (Kd.R_below HO2.out hb3)
  have HR3 := Aside0.mk (Kd.R_lower ho3 (below_size HB2.out))
  clear ho3 hb3 HO2 HB2
  obtain ⟨Ar, cr, er⟩ := Kd.R_slice HR3.out
  subst er
  obtain ⟨y, hy⟩ : ∃ y, own ++ [lev] ++ restB a (own.length + 1) = y := ⟨_, rfl⟩
  have hyl : y.length = own.length + 1 + (restB a (own.length + 1)).length := by rw [← hy, List.length_append, List.length_append, List.length_singleton]
  have HY := Aside0.mk hy
  clear hy
  have HNE := Aside0.mk (show y ≠ [] by rintro rfl; simp only [List.length_nil] at hyl; omega)
  have hyb : y.length ≤ 8589934570 := by omega
  have HYL := Aside0.mk hyl
  clear hyl
  have hge : ¬ ((own.length : Int) < 0) := by omega
  by_cases hone : y.length = 1 ∧ free = true ∧ y = [⟨#[]⟩]
  · obtain ⟨h1, rfl, hy1⟩ := hone
    subst hy1
    obtain ⟨z, hz⟩ : ∃ z : ByteArray, z = ⟨#[]⟩ := ⟨_, rfl⟩
    have hzb2 : (z.toList == []) = true := by rw [tl, hz]; rfl
    rw [← hz] at HY HNE
    have HZ := Aside0.mk hz
    clear hz h1
    by_cases hb0 : own.length < b.length
    · obtain ⟨ab, eab, hxb⟩ := C_at HC2.out own.length hb0
      subst eab
      obtain ⟨xb, hxbe⟩ : ∃ xb, b[own.length] = xb := ⟨_, rfl⟩
      rw [hxbe] at hxb
      have hgb : b[own.length]? = some xb := by rw [List.getElem?_eq_getElem hb0, hxbe]
      have HXB := Aside0.mk hxb
      clear hxb hxbe
      have hnb : ¬ (b.length ≤ own.length) := by omega
      by_cases hxa : xb = ⟨#[97]⟩
      · have hL : leavesL own a b own.length lev true = [⟨#[98]⟩] := by
          unfold leavesL
          rw [HY.out, HZ.out, if_pos ⟨rfl, rfl⟩, if_pos (by rw [hgb, hxa])]
        rw [hL] at HT
        have hxab : (xb.toList == [97]) = true := by rw [hxa, tl]; rfl
        clear hL hxa hgb
        go_wp2_with (first | ((with_reducible refine gate_builtin (b := .append) (xs := #[.tmp 21, .tmp 25]) rfl ?_); at_builtin; refine Kd.R_append_rows Kd.string (w0 := w) w.heap.size rfl (.tmp 21) (.tmp 25) 27 9 (.string ⟨#[]⟩) 16 rfl Try.underlying27 info9 rfl (by decide) (by omega) v2 (own ++ [lev]) (restB a (own.length + 1)) _ _ _ (fun _ => True) (fun _ => False) rfl rfl HO3.out (Kd.R_reads' HR3.out).2.2 (fun _ _ h => h) (fun _ h => h.elim) (fun _ _ => trivial) HB3.out (below_size HB3.out) ?aL ?_; (case aL => simp; omega); intro v4 w4 ho hb hg hat; rw [HY.out] at ho; obtain ⟨g4, c4, rfl, hg4⟩ := R_addr ho HNE.out; have HO4 := Aside0.mk ho; have HB4 := Aside0.mk hb; have HG4 := Aside0.mk hg4; obtain ⟨hq0, _, hq2, _⟩ := (HO.out.below hb).cell1;  obtain ⟨_, heq0, hqz⟩ := C_at (Kd.R_reads' ho).2.2 0 (Nat.zero_lt_succ 0); cases heq0; replace hqz : w4.cell? ⟨g4, 0, none⟩ = some (.string z) := hqz; have hfz := put1f ho; have HO5a := Aside0.mk (put1 ho (⟨#[97]⟩ : ByteArray)); have hfz2 := put1f HO5a.out; have HO5 := Aside0.mk (put1 HO5a.out (⟨#[98]⟩ : ByteArray)); have HB5a := Aside0.mk (below_set hb hg4 (j := 0) (v := .string ⟨#[97]⟩)); have HB5 := Aside0.mk (below_set HB5a.out hg4 (j := 0) (v := .string ⟨#[98]⟩)); obtain ⟨_, _, hq7, _⟩ := (HO.out.below HB5a.out).cell1; have hxb5 := read_below HB5a.out HXB.out; obtain ⟨hq5, _, hq6, _⟩ := (HO.out.below HB5.out).cell1; clear ho hb hg hat hg4 HO3 HR3 HB3) | (go_at_call 22; refine (cover_told.calls K _ _ [(⟨#[98]⟩ : ByteArray)] false _ _ [f] s ok _ ?s1 ?s2 ?s3 ?s4 HT.out).mono ?_; (case s1 => exact (Kd.R_reads' (Kd.R_alloc HO5.out _)).2.2); (case s2 => exact (Kd.R_reads' HO5.out).2.1); (case s3 => exact C_one (World.cell?_alloc_at _ _ _ _ (by first | rfl | simp [World.setCell]))); (case s4 => exact Nat.le_refl _); rintro e w5 ⟨rfl, hb5⟩; have HB6 := Aside0.mk (below_step (below_alloc HB5.out _) hb5); clear hb5))
        go_ret2
        exact ⟨rfl, HB6.out⟩
      · have hL : leavesL own a b own.length lev true = [⟨#[97]⟩] := by
          unfold leavesL
          rw [HY.out, HZ.out, if_pos ⟨rfl, rfl⟩, if_neg (by rw [hgb]; rintro e; cases e; exact hxa rfl)]
        rw [hL] at HT
        have hxab : (xb.toList == [97]) = false := by rw [beq_eq_false_iff_ne]; rintro e; rw [tl] at e; exact hxa (bl_inj e)
        clear hL hxa hgb
        go_wp2_with (first | ((with_reducible refine gate_builtin (b := .append) (xs := #[.tmp 21, .tmp 25]) rfl ?_); at_builtin; refine Kd.R_append_rows Kd.string (w0 := w) w.heap.size rfl (.tmp 21) (.tmp 25) 27 9 (.string ⟨#[]⟩) 16 rfl Try.underlying27 info9 rfl (by decide) (by omega) v2 (own ++ [lev]) (restB a (own.length + 1)) _ _ _ (fun _ => True) (fun _ => False) rfl rfl HO3.out (Kd.R_reads' HR3.out).2.2 (fun _ _ h => h) (fun _ h => h.elim) (fun _ _ => trivial) HB3.out (below_size HB3.out) ?aL ?_; (case aL => simp; omega); intro v4 w4 ho hb hg hat; rw [HY.out] at ho; obtain ⟨g4, c4, rfl, hg4⟩ := R_addr ho HNE.out; have HO4 := Aside0.mk ho; have HB4 := Aside0.mk hb; have HG4 := Aside0.mk hg4; obtain ⟨hq0, _, hq2, _⟩ := (HO.out.below hb).cell1;  obtain ⟨_, heq0, hqz⟩ := C_at (Kd.R_reads' ho).2.2 0 (Nat.zero_lt_succ 0); cases heq0; replace hqz : w4.cell? ⟨g4, 0, none⟩ = some (.string z) := hqz; have hfz := put1f ho; have HO5 := Aside0.mk (put1 ho (⟨#[97]⟩ : ByteArray)); have HB5 := Aside0.mk (below_set hb hg4 (j := 0) (v := .string ⟨#[97]⟩)); have hxb5 := read_below HB5.out HXB.out; obtain ⟨hq5, _, hq6, _⟩ := (HO.out.below HB5.out).cell1; clear ho hb hg hat hg4 HO3 HR3 HB3) | (go_at_call 22; refine (cover_told.calls K _ _ [(⟨#[97]⟩ : ByteArray)] false _ _ [f] s ok _ ?s1 ?s2 ?s3 ?s4 HT.out).mono ?_; (case s1 => exact (Kd.R_reads' (Kd.R_alloc HO5.out _)).2.2); (case s2 => exact (Kd.R_reads' HO5.out).2.1); (case s3 => exact C_one (World.cell?_alloc_at _ _ _ _ (by first | rfl | simp [World.setCell]))); (case s4 => exact Nat.le_refl _); rintro e w5 ⟨rfl, hb5⟩; have HB6 := Aside0.mk (below_step (below_alloc HB5.out _) hb5); clear hb5))
        go_ret2
        exact ⟨rfl, HB6.out⟩
    · have hb0' : b.length ≤ own.length := by omega
      have hL : leavesL own a b own.length lev true = [⟨#[97]⟩] := by
        unfold leavesL
        rw [HY.out, HZ.out, if_pos ⟨rfl, rfl⟩, if_neg]
        rw [List.getElem?_eq_none (by simpa using hb0')]; rintro ⟨⟩
      rw [hL] at HT
      clear hL
      go_wp2_with (first | ((with_reducible refine gate_builtin (b := .append) (xs := #[.tmp 21, .tmp 25]) rfl ?_); at_builtin; refine Kd.R_append_rows Kd.string (w0 := w) w.heap.size rfl (.tmp 21) (.tmp 25) 27 9 (.string ⟨#[]⟩) 16 rfl Try.underlying27 info9 rfl (by decide) (by omega) v2 (own ++ [lev]) (restB a (own.length + 1)) _ _ _ (fun _ => True) (fun _ => False) rfl rfl HO3.out (Kd.R_reads' HR3.out).2.2 (fun _ _ h => h) (fun _ h => h.elim) (fun _ _ => trivial) HB3.out (below_size HB3.out) ?aL ?_; (case aL => simp; omega); intro v4 w4 ho hb hg hat; rw [HY.out] at ho; obtain ⟨g4, c4, rfl, hg4⟩ := R_addr ho HNE.out; have HO4 := Aside0.mk ho; have HB4 := Aside0.mk hb; have HG4 := Aside0.mk hg4; obtain ⟨hq0, _, hq2, _⟩ := (HO.out.below hb).cell1;  obtain ⟨_, heq0, hqz⟩ := C_at (Kd.R_reads' ho).2.2 0 (Nat.zero_lt_succ 0); cases heq0; replace hqz : w4.cell? ⟨g4, 0, none⟩ = some (.string z) := hqz; have hfz := put1f ho; have HO5 := Aside0.mk (put1 ho (⟨#[97]⟩ : ByteArray)); have HB5 := Aside0.mk (below_set hb hg4 (j := 0) (v := .string ⟨#[97]⟩)); obtain ⟨hq5, _, hq6, _⟩ := (HO.out.below HB5.out).cell1; clear ho hb hg hat hg4 HO3 HR3 HB3) | (go_at_call 22; refine (cover_told.calls K _ _ [(⟨#[97]⟩ : ByteArray)] false _ _ [f] s ok _ ?s1 ?s2 ?s3 ?s4 HT.out).mono ?_; (case s1 => exact (Kd.R_reads' (Kd.R_alloc HO5.out _)).2.2); (case s2 => exact (Kd.R_reads' HO5.out).2.1); (case s3 => exact C_one (World.cell?_alloc_at _ _ _ _ (by first | rfl | simp [World.setCell]))); (case s4 => exact Nat.le_refl _); rintro e w5 ⟨rfl, hb5⟩; have HB6 := Aside0.mk (below_step (below_alloc HB5.out _) hb5); clear hb5))
      go_ret2
      exact ⟨rfl, HB6.out⟩
  · have hL : leavesL own a b own.length lev free = y := by
      unfold leavesL
      rw [HY.out, if_neg (by rintro ⟨h1, h2⟩; exact hone ⟨by rw [h1]; rfl, h2, h1⟩)]
    rw [hL] at HT
    clear hL
    by_cases h1 : y.length = 1
    · obtain ⟨z, rfl⟩ : ∃ z, y = [z] := by
        match y, h1 with
        | [z], _ => exact ⟨z, rfl⟩
      by_cases hz : Cr.bl z = []
      · have hfr : free = false := by
          cases free with
          | false => rfl
          | true => exact absurd ⟨rfl, rfl, by rw [show z = ⟨#[]⟩ from bl_inj hz]⟩ hone
        subst hfr
        have hzb : z.toList.isEmpty = true := by rw [tl, hz]; rfl
        have hzb2 : (z.toList == []) = true := by rw [tl, hz]; rfl
        clear hone h1 hz
        go_wp2_with (first | ((with_reducible refine gate_builtin (b := .append) (xs := #[.tmp 21, .tmp 25]) rfl ?_); at_builtin; refine Kd.R_append_rows Kd.string (w0 := w) w.heap.size rfl (.tmp 21) (.tmp 25) 27 9 (.string ⟨#[]⟩) 16 rfl Try.underlying27 info9 rfl (by decide) (by omega) v2 (own ++ [lev]) (restB a (own.length + 1)) _ _ _ (fun _ => True) (fun _ => False) rfl rfl HO3.out (Kd.R_reads' HR3.out).2.2 (fun _ _ h => h) (fun _ h => h.elim) (fun _ _ => trivial) HB3.out (below_size HB3.out) ?aL ?_; (case aL => simp; omega); intro v4 w4 ho hb hg hat; rw [HY.out] at ho; obtain ⟨g4, c4, rfl, hg4⟩ := R_addr ho HNE.out; have HO4 := Aside0.mk ho; have HB4 := Aside0.mk hb; have HG4 := Aside0.mk hg4; obtain ⟨hq0, _, hq2, _⟩ := (HO.out.below hb).cell1;  obtain ⟨_, heq0, hqz⟩ := C_at (Kd.R_reads' ho).2.2 0 (Nat.zero_lt_succ 0); cases heq0; replace hqz : w4.cell? ⟨g4, 0, none⟩ = some (.string z) := hqz; clear ho hb hg hat hg4 HO3 HR3 HB3) | (go_at_call 22; refine (cover_told.calls K _ _ [z] false _ _ [f] s ok _ ?s1 ?s2 ?s3 ?s4 HT.out).mono ?_; (case s1 => exact (Kd.R_reads' (Kd.R_alloc HO4.out _)).2.2); (case s2 => exact (Kd.R_reads' HO4.out).2.1); (case s3 => exact C_one (World.cell?_alloc_at _ _ _ _ rfl)); (case s4 => exact Nat.le_refl _); rintro e w5 ⟨rfl, hb5⟩; have HB5 := Aside0.mk (below_step (below_alloc HB4.out _) hb5); clear hb5))
        go_ret2
        exact ⟨rfl, HB5.out⟩
      · have hzb2 : (z.toList == []) = false := by rw [tl, beq_eq_false_iff_ne]; exact hz
        clear hone h1 hz hge
        go_wp2_with (first | ((with_reducible refine gate_builtin (b := .append) (xs := #[.tmp 21, .tmp 25]) rfl ?_); at_builtin; refine Kd.R_append_rows Kd.string (w0 := w) w.heap.size rfl (.tmp 21) (.tmp 25) 27 9 (.string ⟨#[]⟩) 16 rfl Try.underlying27 info9 rfl (by decide) (by omega) v2 (own ++ [lev]) (restB a (own.length + 1)) _ _ _ (fun _ => True) (fun _ => False) rfl rfl HO3.out (Kd.R_reads' HR3.out).2.2 (fun _ _ h => h) (fun _ h => h.elim) (fun _ _ => trivial) HB3.out (below_size HB3.out) ?aL ?_; (case aL => simp; omega); intro v4 w4 ho hb hg hat; rw [HY.out] at ho; obtain ⟨g4, c4, rfl, hg4⟩ := R_addr ho HNE.out; have HO4 := Aside0.mk ho; have HB4 := Aside0.mk hb; have HG4 := Aside0.mk hg4; obtain ⟨hq0, _, hq2, _⟩ := (HO.out.below hb).cell1;  obtain ⟨_, heq0, hqz⟩ := C_at (Kd.R_reads' ho).2.2 0 (Nat.zero_lt_succ 0); cases heq0; replace hqz : w4.cell? ⟨g4, 0, none⟩ = some (.string z) := hqz; clear ho hb hg hat hg4 HO3 HR3 HB3) | (go_at_call 22; refine (cover_told.calls K _ _ [z] false _ _ [f] s ok _ ?s1 ?s2 ?s3 ?s4 HT.out).mono ?_; (case s1 => exact (Kd.R_reads' (Kd.R_alloc HO4.out _)).2.2); (case s2 => exact (Kd.R_reads' HO4.out).2.1); (case s3 => exact C_one (World.cell?_alloc_at _ _ _ _ rfl)); (case s4 => exact Nat.le_refl _); rintro e w5 ⟨rfl, hb5⟩; have HB5 := Aside0.mk (below_step (below_alloc HB4.out _) hb5); clear hb5))
        go_ret2
        exact ⟨rfl, HB5.out⟩
    · have h1b : ((y.length : Int) == 1) = false := beq_eq_false_iff_ne.mpr (by omega)
      clear hone h1
      go_wp2_with (first | ((with_reducible refine gate_builtin (b := .append) (xs := #[.tmp 21, .tmp 25]) rfl ?_); at_builtin; refine Kd.R_append_rows Kd.string (w0 := w) w.heap.size rfl (.tmp 21) (.tmp 25) 27 9 (.string ⟨#[]⟩) 16 rfl Try.underlying27 info9 rfl (by decide) (by omega) v2 (own ++ [lev]) (restB a (own.length + 1)) _ _ _ (fun _ => True) (fun _ => False) rfl rfl HO3.out (Kd.R_reads' HR3.out).2.2 (fun _ _ h => h) (fun _ h => h.elim) (fun _ _ => trivial) HB3.out (below_size HB3.out) ?aL ?_; (case aL => simp; omega); intro v4 w4 ho hb hg hat; rw [HY.out] at ho; obtain ⟨g4, c4, rfl, hg4⟩ := R_addr ho HNE.out; have HO4 := Aside0.mk ho; have HB4 := Aside0.mk hb; have HG4 := Aside0.mk hg4; obtain ⟨hq0, _, hq2, _⟩ := (HO.out.below hb).cell1;  clear ho hb hg hat hg4 HO3 HR3 HB3) | (go_at_call 22; refine (cover_told.calls K _ _ y false _ _ [f] s ok _ ?s1 ?s2 ?s3 ?s4 HT.out).mono ?_; (case s1 => exact (Kd.R_reads' (Kd.R_alloc HO4.out _)).2.2); (case s2 => exact (Kd.R_reads' HO4.out).2.1); (case s3 => exact C_one (World.cell?_alloc_at _ _ _ _ rfl)); (case s4 => exact Nat.le_refl _); rintro e w5 ⟨rfl, hb5⟩; have HB5 := Aside0.mk (below_step (below_alloc HB4.out _) hb5); clear hb5))
      go_ret2
      exact ⟨rfl, HB5.out⟩
end Go.Proofs.Ytamelcgamlcliaa.Giv
