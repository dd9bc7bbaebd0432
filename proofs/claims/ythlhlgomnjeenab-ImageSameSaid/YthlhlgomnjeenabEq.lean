/- equality, by walks: slices.Equal, slices.EqualFunc, image.Same, crierref15.Same. -/
import Derived.Test.YthlhlgomnjeenabSw
import Derived.Test.YthlhlgomnjeenabPImageSamex
import Derived.BigQuiet
import Derived.IntWalk
import Derived.Deep.QuietTactic
import Derived.Laws.EntriesVeiled
namespace Go.Proofs.Ythlhlgomnjeenab.Rm
open Go.RowKit Go.Proofs.YthlhlgomnjeenabW.PrintWords Go.Proofs.YthlhlgomnjeenabW.PrintLast Go.Proofs.YthlhlgomnjeenabW.PrintMore Go.Proofs.Ythlhlgomnjeenab.PImageSame
set_option linter.unusedVariables false
set_option linter.unusedSimpArgs false
set_option maxHeartbeats 4000000
set_option maxRecDepth 100000
attribute [local go_sem high] eqA90 eqA66
def eqL {α : Type} (e : α → α → Bool) : List α → List α → Bool
  | [], [] => true
  | x :: l, y :: m => e x y && eqL e l m
  | _, _ => false
theorem eqL_len {α : Type} {e : α → α → Bool} : ∀ {l m : List α}, eqL e l m = true → l.length = m.length
  | [], [], _ => rfl
  | [], _ :: _, h => by simp [eqL] at h
  | _ :: _, [], h => by simp [eqL] at h
  | x :: l, y :: m, h => by
    simp only [eqL, Bool.and_eq_true] at h
    simp [eqL_len h.2]
theorem eqL_ne {α : Type} {e : α → α → Bool} {l m : List α} (h : l.length ≠ m.length) : eqL e l m = false := by
  cases hh : eqL e l m with
  | false => rfl
  | true => exact absurd (eqL_len hh) h
theorem eqL_drop {α : Type} {e : α → α → Bool} {l m : List α} {k : Nat} {x y : α} (hl : l[k]? = some x) (hm : m[k]? = some y) : eqL e (l.drop k) (m.drop k) = (e x y && eqL e (l.drop (k + 1)) (m.drop (k + 1))) := by
  obtain ⟨h1, e1⟩ := List.getElem?_eq_some_iff.1 hl
  obtain ⟨h2, e2⟩ := List.getElem?_eq_some_iff.1 hm
  rw [List.drop_eq_getElem_cons h1, List.drop_eq_getElem_cons h2, e1, e2, eqL]
theorem eqL_end {α : Type} {e : α → α → Bool} {l m : List α} (h : l.length = m.length) : eqL e (l.drop l.length) (m.drop l.length) = true := by
  rw [List.drop_length, h, List.drop_length]
  rfl
theorem eqL_refl {α : Type} {e : α → α → Bool} (he : ∀ x, e x x = true) : ∀ l : List α, eqL e l l = true
  | [] => rfl
  | x :: l => by rw [eqL, he, eqL_refl he l]; rfl
theorem eqL_symm {α : Type} {e : α → α → Bool} (he : ∀ x y, e x y = e y x) : ∀ l m : List α, eqL e l m = eqL e m l
  | [], [] => rfl
  | [], _ :: _ => rfl
  | _ :: _, [] => rfl
  | x :: l, y :: m => by rw [eqL, eqL, he, eqL_symm he l m]
def eN (x y : Int) : Bool := x == y
def eA (x y : S90) : Bool := x.f0.toList == y.f0.toList && x.f1 == y.f1
def eG (x y : S66) : Bool := x.f0.toList == y.f0.toList && x.f1.toList == y.f1.toList
def eM (x y : S72) : Bool := x.f0.toList == y.f0.toList && (x.f2 == y.f2 && (x.f3 == y.f3 && eqL eN x.f1 y.f1))
def eF (x y : S76) : Bool := x.f0 == y.f0 && (x.f2 == y.f2 && eM x.f1 y.f1)
def eS (x y : S64) : Bool := x.f0.toList == y.f0.toList && (eqL eA x.f1 y.f1 && (x.f2.f0 == y.f2.f0 && (eqL eF x.f2.f1 y.f2.f1 && (eqL eM x.f2.f2 y.f2.f2 && eqL eN x.f3 y.f3))))
def eI (au bu : Int) (ls ms : List S64) (lr mr : List S72) (lg mg : List S66) : Bool := au == bu && (eqL eS ls ms && (eqL eM lr mr && eqL eG lg mg))
theorem bytes_ext {a b : ByteArray} (h : a.toList = b.toList) : a = b := by
  have h2 : ∀ x : ByteArray, x.toList = x.data.toList := fun x => by rw [ByteArray.toList_eq] 
  rw [h2, h2] at h
  exact ByteArray.ext (Array.ext' h)
theorem at_k {α : Type} {l : List α} {d x : α} {k : Nat} (hk : k < l.length) (hx : x = l.getD ((k : Int).toNat) d) : l[k]? = some x := by rw [hx, Int.toNat_natCast, List.getD_eq_getElem?_getD, List.getElem?_eq_getElem hk]; rfl

theorem eqB_calls (A0 : Option Addr) (c0 : Nat) (l0 : List Int) (A1 : Option Addr) (c1 : Nat) (l1 : List Int) (w : World) (hr0 : Kd.C (Kd.int .u8) w A0 l0.length l0) (hc0 : l0.length ≤ c0) (hr1 : Kd.C (Kd.int .u8) w A1 l1.length l1) (hc1 : l1.length ≤ c1) :
    Calls Try.prog 55 #[.slice A0 l0.length c0, .slice A1 l1.length c1] w fun e w' => e = .returned (.bool (eqL eN l0 l1)) ∧ Below w.heap.size w w' := by
  have HR0 := Aside0.mk hr0; have HR1 := Aside0.mk hr1; have HB := Aside0.mk (Below.refl w.heap.size w); have HC0 := Aside0.mk hc0; have HC1 := Aside0.mk hc1
  have hm0 := hr0.2.1
  clear hr0 hr1 hc0 hc1
  by_cases hlen : l0.length = l1.length
  · have HLEN := Aside0.mk hlen
    have b0 : ((l0.length : Int) == (l1.length : Int)) = true := by simp [hlen]
    have b1 : ((l0.length : Int) != (l1.length : Int)) = false := by simp [hlen]
    have b2 : (l0.length == l1.length) = true := by simp [hlen]
    clear hlen
    go_enter Try.func55, Try.ntmps55
    go_wp2
    repeat (go_quiet (fail); try go_wp2)
    go_loopw [13] (fun i wr => ∃ k : Nat, k ≤ l0.length ∧ i = .int .i64 k ∧ Aside0 (eqL eN (l0.drop k) (l1.drop k) = eqL eN l0 l1) ∧ Aside0 (Below w.heap.size w wr)) (fun i _ => l0.length - (intOf i).toNat)
    case atStart => exact ⟨0, Nat.zero_le _, rfl, ⟨rfl⟩, ⟨(by repeat (with_reducible first | exact HB.out | apply below_alloc | apply pw_below_drewN | (refine Below.setCell ?_ HB.out.size _)))⟩⟩
    case round =>
      clear HB b0 b1 b2
      obtain ⟨k, hk, rfl, HQ, HB⟩ := hrel
      obtain ⟨wo, hwo⟩ : ∃ x, x = wr := ⟨_, rfl⟩; subst hwo
      by_cases hlt : k < l0.length
      · have hlt1 : k < l1.length := by have := HLEN.out; omega
        obtain ⟨ad0, c2, e0, _, hK0, hc_0⟩ := Kd.C_get HR0.out (0 : Int) (k : Int) (by omega) (by omega)
        obtain ⟨ad1, c3, e1, _, hK1, hc_1⟩ := Kd.C_get HR1.out (0 : Int) (k : Int) (by omega) (by omega)
        subst e0 e1; obtain rfl : c2 = _ := hK0; obtain rfl : c3 = _ := hK1
        obtain ⟨x, hx⟩ : ∃ x, x = l0.getD ((k : Int).toNat) 0 := ⟨_, rfl⟩; obtain ⟨y, hy⟩ : ∃ y, y = l1.getD ((k : Int).toNat) 0 := ⟨_, rfl⟩
        have f0 := pw_cell_below HB.out (hc_0 0 _ rfl); have f1 := pw_cell_below HB.out (hc_1 0 _ rfl)
        rw [show (Kd.int .u8).sz = 1 from rfl, Nat.mul_one, Nat.add_zero, Int.toNat_natCast] at f0 f1; rw [show l0.getD k 0 = x by rw [hx, Int.toNat_natCast]] at f0; rw [show l1.getD k 0 = y by rw [hy, Int.toNat_natCast]] at f1
        have hx' := at_k hlt hx; have hy' := at_k hlt1 hy; clear hc_0 hc_1 hx hy
        have HS := Aside0.mk (eqL_drop (e := eN) hx' hy'); clear hx' hy'
        cases hq : eN x y with
        | false =>
          have HE : Aside0 (eqL eN l0 l1 = false) := ⟨by rw [← HQ.out, HS.out, hq]; rfl⟩
          have t0 : (x == y) = false := by exact hq
          have t1 : (x != y) = true := by unfold eN at hq; simp [bne, hq]
          clear hq HQ HS
          go_wp2; repeat (go_quiet (fail); try go_wp2)
          go_ret
          exact ⟨by rw [HE.out]; rfl, (by repeat (with_reducible first | exact HB.out | apply below_alloc | apply pw_below_drewN | (refine Below.setCell ?_ HB.out.size _)))⟩
        | true =>
          have HQ2 : Aside0 (eqL eN (l0.drop (k + 1)) (l1.drop (k + 1)) = eqL eN l0 l1) := ⟨by rw [← HQ.out, HS.out, hq]; rfl⟩
          obtain rfl : x = y := by simpa [eN] using hq
          clear hq
          clear HQ HS
          go_wp2; repeat (go_quiet (fail); try go_wp2)
          go_roundw
          case rel => exact ⟨k + 1, by omega, by go_num, HQ2, ⟨(by repeat (with_reducible first | exact HB.out | apply below_alloc | apply pw_below_drewN | (refine Below.setCell ?_ HB.out.size _)))⟩⟩
          case measure => simp [intOf]; omega
      · obtain rfl : k = l0.length := by omega
        have HE : Aside0 (eqL eN l0 l1 = true) := ⟨by rw [← HQ.out]; exact eqL_end HLEN.out⟩
        clear HQ
        go_wp2
        go_ret
        exact ⟨by rw [HE.out]; rfl, (by repeat (with_reducible first | exact HB.out | apply below_alloc | apply pw_below_drewN | (refine Below.setCell ?_ HB.out.size _)))⟩
  · have HE : Aside0 (eqL eN l0 l1 = false) := ⟨eqL_ne hlen⟩
    have b0 : ((l0.length : Int) == (l1.length : Int)) = false := by simp; omega
    have b1 : ((l0.length : Int) != (l1.length : Int)) = true := by simp; omega
    have b2 : (l0.length == l1.length) = false := by simp; omega
    clear hlen
    go_enter Try.func55, Try.ntmps55
    go_wp2
    go_ret
    exact ⟨by rw [HE.out]; rfl, HB.out⟩
theorem eqN_calls (A0 : Option Addr) (c0 : Nat) (l0 : List Int) (A1 : Option Addr) (c1 : Nat) (l1 : List Int) (w : World) (hr0 : Kd.C (Kd.int .i64) w A0 l0.length l0) (hc0 : l0.length ≤ c0) (hr1 : Kd.C (Kd.int .i64) w A1 l1.length l1) (hc1 : l1.length ≤ c1) :
    Calls Try.prog 54 #[.slice A0 l0.length c0, .slice A1 l1.length c1] w fun e w' => e = .returned (.bool (eqL eN l0 l1)) ∧ Below w.heap.size w w' := by
  have HR0 := Aside0.mk hr0; have HR1 := Aside0.mk hr1; have HB := Aside0.mk (Below.refl w.heap.size w); have HC0 := Aside0.mk hc0; have HC1 := Aside0.mk hc1
  have hm0 := hr0.2.1
  clear hr0 hr1 hc0 hc1
  by_cases hlen : l0.length = l1.length
  · have HLEN := Aside0.mk hlen
    have b0 : ((l0.length : Int) == (l1.length : Int)) = true := by simp [hlen]
    have b1 : ((l0.length : Int) != (l1.length : Int)) = false := by simp [hlen]
    have b2 : (l0.length == l1.length) = true := by simp [hlen]
    clear hlen
    go_enter Try.func54, Try.ntmps54
    go_wp2
    repeat (go_quiet (fail); try go_wp2)
    go_loopw [13] (fun i wr => ∃ k : Nat, k ≤ l0.length ∧ i = .int .i64 k ∧ Aside0 (eqL eN (l0.drop k) (l1.drop k) = eqL eN l0 l1) ∧ Aside0 (Below w.heap.size w wr)) (fun i _ => l0.length - (intOf i).toNat)
    case atStart => exact ⟨0, Nat.zero_le _, rfl, ⟨rfl⟩, ⟨(by repeat (with_reducible first | exact HB.out | apply below_alloc | apply pw_below_drewN | (refine Below.setCell ?_ HB.out.size _)))⟩⟩
    case round =>
      clear HB b0 b1 b2
      obtain ⟨k, hk, rfl, HQ, HB⟩ := hrel
      obtain ⟨wo, hwo⟩ : ∃ x, x = wr := ⟨_, rfl⟩; subst hwo
      by_cases hlt : k < l0.length
      · have hlt1 : k < l1.length := by have := HLEN.out; omega
        obtain ⟨ad0, c2, e0, _, hK0, hc_0⟩ := Kd.C_get HR0.out (0 : Int) (k : Int) (by omega) (by omega)
        obtain ⟨ad1, c3, e1, _, hK1, hc_1⟩ := Kd.C_get HR1.out (0 : Int) (k : Int) (by omega) (by omega)
        subst e0 e1; obtain rfl : c2 = _ := hK0; obtain rfl : c3 = _ := hK1
        obtain ⟨x, hx⟩ : ∃ x, x = l0.getD ((k : Int).toNat) 0 := ⟨_, rfl⟩; obtain ⟨y, hy⟩ : ∃ y, y = l1.getD ((k : Int).toNat) 0 := ⟨_, rfl⟩
        have f0 := pw_cell_below HB.out (hc_0 0 _ rfl); have f1 := pw_cell_below HB.out (hc_1 0 _ rfl)
        rw [show (Kd.int .i64).sz = 1 from rfl, Nat.mul_one, Nat.add_zero, Int.toNat_natCast] at f0 f1; rw [show l0.getD k 0 = x by rw [hx, Int.toNat_natCast]] at f0; rw [show l1.getD k 0 = y by rw [hy, Int.toNat_natCast]] at f1
        have hx' := at_k hlt hx; have hy' := at_k hlt1 hy; clear hc_0 hc_1 hx hy
        have HS := Aside0.mk (eqL_drop (e := eN) hx' hy'); clear hx' hy'
        cases hq : eN x y with
        | false =>
          have HE : Aside0 (eqL eN l0 l1 = false) := ⟨by rw [← HQ.out, HS.out, hq]; rfl⟩
          have t0 : (x == y) = false := by exact hq
          have t1 : (x != y) = true := by unfold eN at hq; simp [bne, hq]
          clear hq HQ HS
          go_wp2; repeat (go_quiet (fail); try go_wp2)
          go_ret
          exact ⟨by rw [HE.out]; rfl, (by repeat (with_reducible first | exact HB.out | apply below_alloc | apply pw_below_drewN | (refine Below.setCell ?_ HB.out.size _)))⟩
        | true =>
          have HQ2 : Aside0 (eqL eN (l0.drop (k + 1)) (l1.drop (k + 1)) = eqL eN l0 l1) := ⟨by rw [← HQ.out, HS.out, hq]; rfl⟩
          obtain rfl : x = y := by simpa [eN] using hq
          clear hq
          clear HQ HS
          go_wp2; repeat (go_quiet (fail); try go_wp2)
          go_roundw
          case rel => exact ⟨k + 1, by omega, by go_num, HQ2, ⟨(by repeat (with_reducible first | exact HB.out | apply below_alloc | apply pw_below_drewN | (refine Below.setCell ?_ HB.out.size _)))⟩⟩
          case measure => simp [intOf]; omega
      · obtain rfl : k = l0.length := by omega
        have HE : Aside0 (eqL eN l0 l1 = true) := ⟨by rw [← HQ.out]; exact eqL_end HLEN.out⟩
        clear HQ
        go_wp2
        go_ret
        exact ⟨by rw [HE.out]; rfl, (by repeat (with_reducible first | exact HB.out | apply below_alloc | apply pw_below_drewN | (refine Below.setCell ?_ HB.out.size _)))⟩
  · have HE : Aside0 (eqL eN l0 l1 = false) := ⟨eqL_ne hlen⟩
    have b0 : ((l0.length : Int) == (l1.length : Int)) = false := by simp; omega
    have b1 : ((l0.length : Int) != (l1.length : Int)) = true := by simp; omega
    have b2 : (l0.length == l1.length) = false := by simp; omega
    clear hlen
    go_enter Try.func54, Try.ntmps54
    go_wp2
    go_ret
    exact ⟨by rw [HE.out]; rfl, HB.out⟩
theorem eqA_calls (A0 : Option Addr) (c0 : Nat) (l0 : List S90) (A1 : Option Addr) (c1 : Nat) (l1 : List S90) (w : World) (hr0 : Kd.C k90 w A0 l0.length l0) (hc0 : l0.length ≤ c0) (hr1 : Kd.C k90 w A1 l1.length l1) (hc1 : l1.length ≤ c1) :
    Calls Try.prog 51 #[.slice A0 l0.length c0, .slice A1 l1.length c1] w fun e w' => e = .returned (.bool (eqL eA l0 l1)) ∧ Below w.heap.size w w' := by
  have HR0 := Aside0.mk hr0; have HR1 := Aside0.mk hr1; have HB := Aside0.mk (Below.refl w.heap.size w); have HC0 := Aside0.mk hc0; have HC1 := Aside0.mk hc1
  have hm0 := hr0.2.1
  clear hr0 hr1 hc0 hc1
  have hu := Try.underlying90
  by_cases hlen : l0.length = l1.length
  · have HLEN := Aside0.mk hlen
    have b0 : ((l0.length : Int) == (l1.length : Int)) = true := by simp [hlen]
    have b1 : ((l0.length : Int) != (l1.length : Int)) = false := by simp [hlen]
    have b2 : (l0.length == l1.length) = true := by simp [hlen]
    clear hlen
    go_enter Try.func51, Try.ntmps51
    go_wp2
    repeat (go_quiet (fail); try go_wp2)
    go_loopw [13] (fun i wr => ∃ k : Nat, k ≤ l0.length ∧ i = .int .i64 k ∧ Aside0 (eqL eA (l0.drop k) (l1.drop k) = eqL eA l0 l1) ∧ Aside0 (Below w.heap.size w wr)) (fun i _ => l0.length - (intOf i).toNat)
    case atStart => exact ⟨0, Nat.zero_le _, rfl, ⟨rfl⟩, ⟨(by repeat (with_reducible first | exact HB.out | apply below_alloc | apply pw_below_drewN | (refine Below.setCell ?_ HB.out.size _)))⟩⟩
    case round =>
      clear HB b0 b1 b2
      obtain ⟨k, hk, rfl, HQ, HB⟩ := hrel
      obtain ⟨wo, hwo⟩ : ∃ x, x = wr := ⟨_, rfl⟩; subst hwo
      by_cases hlt : k < l0.length
      · have hlt1 : k < l1.length := by have := HLEN.out; omega
        obtain ⟨ad0, e0, p0, p1⟩ := at_T90 HR0.out (k : Int) (by omega) (by omega)
        obtain ⟨ad1, e1, q0, q1⟩ := at_T90 HR1.out (k : Int) (by omega) (by omega)
        subst e0 e1
        obtain ⟨x, hx⟩ : ∃ x, x = rd_T90 l0 k := ⟨_, rfl⟩; obtain ⟨y, hy⟩ : ∃ y, y = rd_T90 l1 k := ⟨_, rfl⟩
        rw [← hx, Int.toNat_natCast] at p0 p1; rw [← hy, Int.toNat_natCast] at q0 q1
        have f0 := pw_cell_below HB.out p0; have g0 := pw_cell_below HB.out q0; clear p0 q0
        have f1 := pw_cell_below HB.out p1; have g1 := pw_cell_below HB.out q1; clear p1 q1
        have hx' := at_k hlt hx; have hy' := at_k hlt1 hy; clear hx hy
        have HS := Aside0.mk (eqL_drop (e := eA) hx' hy'); clear hx' hy'
        cases hq : eA x y with
        | false =>
          have HE : Aside0 (eqL eA l0 l1 = false) := ⟨by rw [← HQ.out, HS.out, hq]; rfl⟩
          have t0 : (!(x.f0.toList == y.f0.toList) || !(x.f1 == y.f1)) = true := by unfold eA at hq; revert hq; cases x.f0.toList == y.f0.toList <;> cases x.f1 == y.f1 <;> simp
          clear hq HQ HS
          go_wp2; repeat (go_quiet (fail); try go_wp2)
          go_ret
          exact ⟨by rw [HE.out]; rfl, (by repeat (with_reducible first | exact HB.out | apply below_alloc | apply pw_below_drewN | (refine Below.setCell ?_ HB.out.size _)))⟩
        | true =>
          have HQ2 : Aside0 (eqL eA (l0.drop (k + 1)) (l1.drop (k + 1)) = eqL eA l0 l1) := ⟨by rw [← HQ.out, HS.out, hq]; rfl⟩
          obtain rfl : x = y := by
            unfold eA at hq
            simp only [Bool.and_eq_true, beq_iff_eq] at hq
            cases x; cases y; simp only at hq; obtain ⟨h1, h2⟩ := hq; rw [bytes_ext h1, h2]
          clear hq
          clear HQ HS
          go_wp2; repeat (go_quiet (fail); try go_wp2)
          go_roundw
          case rel => exact ⟨k + 1, by omega, by go_num, HQ2, ⟨(by repeat (with_reducible first | exact HB.out | apply below_alloc | apply pw_below_drewN | (refine Below.setCell ?_ HB.out.size _)))⟩⟩
          case measure => simp [intOf]; omega
      · obtain rfl : k = l0.length := by omega
        have HE : Aside0 (eqL eA l0 l1 = true) := ⟨by rw [← HQ.out]; exact eqL_end HLEN.out⟩
        clear HQ
        go_wp2
        go_ret
        exact ⟨by rw [HE.out]; rfl, (by repeat (with_reducible first | exact HB.out | apply below_alloc | apply pw_below_drewN | (refine Below.setCell ?_ HB.out.size _)))⟩
  · have HE : Aside0 (eqL eA l0 l1 = false) := ⟨eqL_ne hlen⟩
    have b0 : ((l0.length : Int) == (l1.length : Int)) = false := by simp; omega
    have b1 : ((l0.length : Int) != (l1.length : Int)) = true := by simp; omega
    have b2 : (l0.length == l1.length) = false := by simp; omega
    clear hlen
    go_enter Try.func51, Try.ntmps51
    go_wp2
    go_ret
    exact ⟨by rw [HE.out]; rfl, HB.out⟩
theorem eqG_calls (A0 : Option Addr) (c0 : Nat) (l0 : List S66) (A1 : Option Addr) (c1 : Nat) (l1 : List S66) (w : World) (hr0 : Kd.C k66 w A0 l0.length l0) (hc0 : l0.length ≤ c0) (hr1 : Kd.C k66 w A1 l1.length l1) (hc1 : l1.length ≤ c1) :
    Calls Try.prog 22 #[.slice A0 l0.length c0, .slice A1 l1.length c1] w fun e w' => e = .returned (.bool (eqL eG l0 l1)) ∧ Below w.heap.size w w' := by
  have HR0 := Aside0.mk hr0; have HR1 := Aside0.mk hr1; have HB := Aside0.mk (Below.refl w.heap.size w); have HC0 := Aside0.mk hc0; have HC1 := Aside0.mk hc1
  have hm0 := hr0.2.1
  clear hr0 hr1 hc0 hc1
  have hu := Try.underlying66
  by_cases hlen : l0.length = l1.length
  · have HLEN := Aside0.mk hlen
    have b0 : ((l0.length : Int) == (l1.length : Int)) = true := by simp [hlen]
    have b1 : ((l0.length : Int) != (l1.length : Int)) = false := by simp [hlen]
    have b2 : (l0.length == l1.length) = true := by simp [hlen]
    clear hlen
    go_enter Try.func22, Try.ntmps22
    go_wp2
    repeat (go_quiet (fail); try go_wp2)
    go_loopw [13] (fun i wr => ∃ k : Nat, k ≤ l0.length ∧ i = .int .i64 k ∧ Aside0 (eqL eG (l0.drop k) (l1.drop k) = eqL eG l0 l1) ∧ Aside0 (Below w.heap.size w wr)) (fun i _ => l0.length - (intOf i).toNat)
    case atStart => exact ⟨0, Nat.zero_le _, rfl, ⟨rfl⟩, ⟨(by repeat (with_reducible first | exact HB.out | apply below_alloc | apply pw_below_drewN | (refine Below.setCell ?_ HB.out.size _)))⟩⟩
    case round =>
      clear HB b0 b1 b2
      obtain ⟨k, hk, rfl, HQ, HB⟩ := hrel
      obtain ⟨wo, hwo⟩ : ∃ x, x = wr := ⟨_, rfl⟩; subst hwo
      by_cases hlt : k < l0.length
      · have hlt1 : k < l1.length := by have := HLEN.out; omega
        obtain ⟨ad0, e0, p0, p1⟩ := at_T66 HR0.out (k : Int) (by omega) (by omega)
        obtain ⟨ad1, e1, q0, q1⟩ := at_T66 HR1.out (k : Int) (by omega) (by omega)
        subst e0 e1
        obtain ⟨x, hx⟩ : ∃ x, x = rd_T66 l0 k := ⟨_, rfl⟩; obtain ⟨y, hy⟩ : ∃ y, y = rd_T66 l1 k := ⟨_, rfl⟩
        rw [← hx, Int.toNat_natCast] at p0 p1; rw [← hy, Int.toNat_natCast] at q0 q1
        have f0 := pw_cell_below HB.out p0; have g0 := pw_cell_below HB.out q0; clear p0 q0
        have f1 := pw_cell_below HB.out p1; have g1 := pw_cell_below HB.out q1; clear p1 q1
        have hx' := at_k hlt hx; have hy' := at_k hlt1 hy; clear hx hy
        have HS := Aside0.mk (eqL_drop (e := eG) hx' hy'); clear hx' hy'
        cases hq : eG x y with
        | false =>
          have HE : Aside0 (eqL eG l0 l1 = false) := ⟨by rw [← HQ.out, HS.out, hq]; rfl⟩
          have t0 : (!(x.f0.toList == y.f0.toList) || !(x.f1.toList == y.f1.toList)) = true := by unfold eG at hq; revert hq; cases x.f0.toList == y.f0.toList <;> cases x.f1.toList == y.f1.toList <;> simp
          clear hq HQ HS
          go_wp2; repeat (go_quiet (fail); try go_wp2)
          go_ret
          exact ⟨by rw [HE.out]; rfl, (by repeat (with_reducible first | exact HB.out | apply below_alloc | apply pw_below_drewN | (refine Below.setCell ?_ HB.out.size _)))⟩
        | true =>
          have HQ2 : Aside0 (eqL eG (l0.drop (k + 1)) (l1.drop (k + 1)) = eqL eG l0 l1) := ⟨by rw [← HQ.out, HS.out, hq]; rfl⟩
          obtain rfl : x = y := by
            unfold eG at hq
            simp only [Bool.and_eq_true, beq_iff_eq] at hq
            cases x; cases y; simp only at hq; obtain ⟨h1, h2⟩ := hq; rw [bytes_ext h1, bytes_ext h2]
          clear hq
          clear HQ HS
          go_wp2; repeat (go_quiet (fail); try go_wp2)
          go_roundw
          case rel => exact ⟨k + 1, by omega, by go_num, HQ2, ⟨(by repeat (with_reducible first | exact HB.out | apply below_alloc | apply pw_below_drewN | (refine Below.setCell ?_ HB.out.size _)))⟩⟩
          case measure => simp [intOf]; omega
      · obtain rfl : k = l0.length := by omega
        have HE : Aside0 (eqL eG l0 l1 = true) := ⟨by rw [← HQ.out]; exact eqL_end HLEN.out⟩
        clear HQ
        go_wp2
        go_ret
        exact ⟨by rw [HE.out]; rfl, (by repeat (with_reducible first | exact HB.out | apply below_alloc | apply pw_below_drewN | (refine Below.setCell ?_ HB.out.size _)))⟩
  · have HE : Aside0 (eqL eG l0 l1 = false) := ⟨eqL_ne hlen⟩
    have b0 : ((l0.length : Int) == (l1.length : Int)) = false := by simp; omega
    have b1 : ((l0.length : Int) != (l1.length : Int)) = true := by simp; omega
    have b2 : (l0.length == l1.length) = false := by simp; omega
    clear hlen
    go_enter Try.func22, Try.ntmps22
    go_wp2
    go_ret
    exact ⟨by rw [HE.out]; rfl, HB.out⟩
theorem sameMessage_calls (x y : S72) (A1 : Option Addr) (c1 : Nat) (B1 : Option Addr) (d1 : Nat) (w : World) (hr1 : Kd.C (Kd.int .u8) w A1 x.f1.length x.f1) (hc1 : x.f1.length ≤ c1) (hs1 : Kd.C (Kd.int .u8) w B1 y.f1.length y.f1) (hd1 : y.f1.length ≤ d1) :
    Calls Try.prog 21 #[.agg #[.string x.f0, .slice A1 x.f1.length c1, .int .i64 x.f2, .bool x.f3], .agg #[.string y.f0, .slice B1 y.f1.length d1, .int .i64 y.f2, .bool y.f3]] w fun e w' => e = .returned (.bool (eM x y)) ∧ Below w.heap.size w w' := by
  have HR1 := Aside0.mk hr1; have HC1 := Aside0.mk hc1; have HS1 := Aside0.mk hs1; have HD1 := Aside0.mk hd1
  have HB := Aside0.mk (Below.refl w.heap.size w)
  clear hr1 hc1 hs1 hd1
  cases t0 : (x.f0.toList == y.f0.toList) with
  | false =>
    have HE : Aside0 ((eM x y) = false) := ⟨by unfold eM; rw [t0]; rfl⟩
    have f0_0 : (x.f0.toList != y.f0.toList) = true := by simp only [bne, t0]; rfl
    go_enter Try.func21, Try.ntmps21
    go_wp2_with (first | ((with_reducible refine gate_dst (N := 2) rfl ?_); refine box_event ?hg (N := 2) ?hd (cs := #[.string x.f0, .slice A1 x.f1.length c1, .int .i64 x.f2, .bool x.f3]) (t := 72) ?hr ?_; (case hd => rfl); (case hg => rfl); (case hr => first | (go_simp; done) | (go_simp; rfl)); intro g0 hgg0 w3 hbox hb; clear hgg0; have BX0 := Aside0.mk hbox; have n0_ := Aside0.mk (below_step HB.out hb); clear HB hbox hb; have HB := n0_; clear n0_) | ((with_reducible refine gate_dst (N := 3) rfl ?_); refine box_event ?hg (N := 3) ?hd (cs := #[.string y.f0, .slice B1 y.f1.length d1, .int .i64 y.f2, .bool y.f3]) (t := 72) ?hr ?_; (case hd => rfl); (case hg => rfl); (case hr => first | (go_simp; done) | (go_simp; rfl)); intro g1 hgg1 w4 hbox hb; clear hgg1; have BX1 := Aside0.mk hbox; have n0_ := Aside0.mk (below_step HB.out hb); have n1_ := Aside0.mk (blk_below BX0.out hb); clear HB BX0 hbox hb; have HB := n0_; have BX0 := n1_; clear n0_ n1_; have p0 : w4.cell? ⟨g0, 0, none⟩ = _ := (blk_cell BX0.out 0).trans rfl; have q0 : w4.cell? ⟨g1, 0, none⟩ = _ := (blk_cell BX1.out 0).trans rfl; have p1 : w4.cell? ⟨g0, 1, none⟩ = _ := (blk_cell BX0.out 1).trans rfl; have q1 : w4.cell? ⟨g1, 1, none⟩ = _ := (blk_cell BX1.out 1).trans rfl; have p2 : w4.cell? ⟨g0, 2, none⟩ = _ := (blk_cell BX0.out 2).trans rfl; have q2 : w4.cell? ⟨g1, 2, none⟩ = _ := (blk_cell BX1.out 2).trans rfl; have p3 : w4.cell? ⟨g0, 3, none⟩ = _ := (blk_cell BX0.out 3).trans rfl; have q3 : w4.cell? ⟨g1, 3, none⟩ = _ := (blk_cell BX1.out 3).trans rfl))
    go_ret
    exact ⟨by rw [HE.out]; rfl, (by repeat (with_reducible first | exact HB.out | apply below_alloc | apply pw_below_drewN | (refine Below.setCell ?_ HB.out.size _)))⟩
  | true =>
    cases t1 : (x.f2 == y.f2) with
    | false =>
      have HE : Aside0 ((eM x y) = false) := ⟨by unfold eM; rw [t0, t1]; rfl⟩
      have f0_0 : (x.f0.toList != y.f0.toList) = false := by simp only [bne, t0]; rfl
      have f1_0 : (x.f2 != y.f2) = true := by simp only [bne, t1]; rfl
      go_enter Try.func21, Try.ntmps21
      go_wp2_with (first | ((with_reducible refine gate_dst (N := 2) rfl ?_); refine box_event ?hg (N := 2) ?hd (cs := #[.string x.f0, .slice A1 x.f1.length c1, .int .i64 x.f2, .bool x.f3]) (t := 72) ?hr ?_; (case hd => rfl); (case hg => rfl); (case hr => first | (go_simp; done) | (go_simp; rfl)); intro g0 hgg0 w3 hbox hb; clear hgg0; have BX0 := Aside0.mk hbox; have n0_ := Aside0.mk (below_step HB.out hb); clear HB hbox hb; have HB := n0_; clear n0_) | ((with_reducible refine gate_dst (N := 3) rfl ?_); refine box_event ?hg (N := 3) ?hd (cs := #[.string y.f0, .slice B1 y.f1.length d1, .int .i64 y.f2, .bool y.f3]) (t := 72) ?hr ?_; (case hd => rfl); (case hg => rfl); (case hr => first | (go_simp; done) | (go_simp; rfl)); intro g1 hgg1 w4 hbox hb; clear hgg1; have BX1 := Aside0.mk hbox; have n0_ := Aside0.mk (below_step HB.out hb); have n1_ := Aside0.mk (blk_below BX0.out hb); clear HB BX0 hbox hb; have HB := n0_; have BX0 := n1_; clear n0_ n1_; have p0 : w4.cell? ⟨g0, 0, none⟩ = _ := (blk_cell BX0.out 0).trans rfl; have q0 : w4.cell? ⟨g1, 0, none⟩ = _ := (blk_cell BX1.out 0).trans rfl; have p1 : w4.cell? ⟨g0, 1, none⟩ = _ := (blk_cell BX0.out 1).trans rfl; have q1 : w4.cell? ⟨g1, 1, none⟩ = _ := (blk_cell BX1.out 1).trans rfl; have p2 : w4.cell? ⟨g0, 2, none⟩ = _ := (blk_cell BX0.out 2).trans rfl; have q2 : w4.cell? ⟨g1, 2, none⟩ = _ := (blk_cell BX1.out 2).trans rfl; have p3 : w4.cell? ⟨g0, 3, none⟩ = _ := (blk_cell BX0.out 3).trans rfl; have q3 : w4.cell? ⟨g1, 3, none⟩ = _ := (blk_cell BX1.out 3).trans rfl))
      go_ret
      exact ⟨by rw [HE.out]; rfl, (by repeat (with_reducible first | exact HB.out | apply below_alloc | apply pw_below_drewN | (refine Below.setCell ?_ HB.out.size _)))⟩
    | true =>
      cases t2 : (x.f3 == y.f3) with
      | false =>
        have HE : Aside0 ((eM x y) = false) := ⟨by unfold eM; rw [t0, t1, t2]; rfl⟩
        have f0_0 : (x.f0.toList != y.f0.toList) = false := by simp only [bne, t0]; rfl
        have f1_0 : (x.f2 != y.f2) = false := by simp only [bne, t1]; rfl
        have f2_0 : decide (x.f3 = y.f3) = false := by simpa using t2
        go_enter Try.func21, Try.ntmps21
        go_wp2_with (first | ((with_reducible refine gate_dst (N := 2) rfl ?_); refine box_event ?hg (N := 2) ?hd (cs := #[.string x.f0, .slice A1 x.f1.length c1, .int .i64 x.f2, .bool x.f3]) (t := 72) ?hr ?_; (case hd => rfl); (case hg => rfl); (case hr => first | (go_simp; done) | (go_simp; rfl)); intro g0 hgg0 w3 hbox hb; clear hgg0; have BX0 := Aside0.mk hbox; have n0_ := Aside0.mk (below_step HB.out hb); clear HB hbox hb; have HB := n0_; clear n0_) | ((with_reducible refine gate_dst (N := 3) rfl ?_); refine box_event ?hg (N := 3) ?hd (cs := #[.string y.f0, .slice B1 y.f1.length d1, .int .i64 y.f2, .bool y.f3]) (t := 72) ?hr ?_; (case hd => rfl); (case hg => rfl); (case hr => first | (go_simp; done) | (go_simp; rfl)); intro g1 hgg1 w4 hbox hb; clear hgg1; have BX1 := Aside0.mk hbox; have n0_ := Aside0.mk (below_step HB.out hb); have n1_ := Aside0.mk (blk_below BX0.out hb); clear HB BX0 hbox hb; have HB := n0_; have BX0 := n1_; clear n0_ n1_; have p0 : w4.cell? ⟨g0, 0, none⟩ = _ := (blk_cell BX0.out 0).trans rfl; have q0 : w4.cell? ⟨g1, 0, none⟩ = _ := (blk_cell BX1.out 0).trans rfl; have p1 : w4.cell? ⟨g0, 1, none⟩ = _ := (blk_cell BX0.out 1).trans rfl; have q1 : w4.cell? ⟨g1, 1, none⟩ = _ := (blk_cell BX1.out 1).trans rfl; have p2 : w4.cell? ⟨g0, 2, none⟩ = _ := (blk_cell BX0.out 2).trans rfl; have q2 : w4.cell? ⟨g1, 2, none⟩ = _ := (blk_cell BX1.out 2).trans rfl; have p3 : w4.cell? ⟨g0, 3, none⟩ = _ := (blk_cell BX0.out 3).trans rfl; have q3 : w4.cell? ⟨g1, 3, none⟩ = _ := (blk_cell BX1.out 3).trans rfl))
        go_ret
        exact ⟨by rw [HE.out]; rfl, (by repeat (with_reducible first | exact HB.out | apply below_alloc | apply pw_below_drewN | (refine Below.setCell ?_ HB.out.size _)))⟩
      | true =>
        cases t3 : (eqL eN x.f1 y.f1) with
        | false =>
          have HE : Aside0 ((eM x y) = false) := ⟨by unfold eM; rw [t0, t1, t2, t3]; rfl⟩
          have f0_0 : (x.f0.toList != y.f0.toList) = false := by simp only [bne, t0]; rfl
          have f1_0 : (x.f2 != y.f2) = false := by simp only [bne, t1]; rfl
          have f2_0 : decide (x.f3 = y.f3) = true := by simpa using t2
          go_enter Try.func21, Try.ntmps21
          go_wp2_with (first | ((with_reducible refine gate_dst (N := 2) rfl ?_); refine box_event ?hg (N := 2) ?hd (cs := #[.string x.f0, .slice A1 x.f1.length c1, .int .i64 x.f2, .bool x.f3]) (t := 72) ?hr ?_; (case hd => rfl); (case hg => rfl); (case hr => first | (go_simp; done) | (go_simp; rfl)); intro g0 hgg0 w3 hbox hb; clear hgg0; have BX0 := Aside0.mk hbox; have n0_ := Aside0.mk (below_step HB.out hb); clear HB hbox hb; have HB := n0_; clear n0_) | ((with_reducible refine gate_dst (N := 3) rfl ?_); refine box_event ?hg (N := 3) ?hd (cs := #[.string y.f0, .slice B1 y.f1.length d1, .int .i64 y.f2, .bool y.f3]) (t := 72) ?hr ?_; (case hd => rfl); (case hg => rfl); (case hr => first | (go_simp; done) | (go_simp; rfl)); intro g1 hgg1 w4 hbox hb; clear hgg1; have BX1 := Aside0.mk hbox; have n0_ := Aside0.mk (below_step HB.out hb); have n1_ := Aside0.mk (blk_below BX0.out hb); clear HB BX0 hbox hb; have HB := n0_; have BX0 := n1_; clear n0_ n1_; have p0 : w4.cell? ⟨g0, 0, none⟩ = _ := (blk_cell BX0.out 0).trans rfl; have q0 : w4.cell? ⟨g1, 0, none⟩ = _ := (blk_cell BX1.out 0).trans rfl; have p1 : w4.cell? ⟨g0, 1, none⟩ = _ := (blk_cell BX0.out 1).trans rfl; have q1 : w4.cell? ⟨g1, 1, none⟩ = _ := (blk_cell BX1.out 1).trans rfl; have p2 : w4.cell? ⟨g0, 2, none⟩ = _ := (blk_cell BX0.out 2).trans rfl; have q2 : w4.cell? ⟨g1, 2, none⟩ = _ := (blk_cell BX1.out 2).trans rfl; have p3 : w4.cell? ⟨g0, 3, none⟩ = _ := (blk_cell BX0.out 3).trans rfl; have q3 : w4.cell? ⟨g1, 3, none⟩ = _ := (blk_cell BX1.out 3).trans rfl) | (go_at_call 55; ((with_reducible refine (eqB_calls _ _ _ _ _ _ _ (Kd.C_below HR1.out HB.out) HC1.out (Kd.C_below HS1.out HB.out) HD1.out).mono ?_); rintro e w5 ⟨rfl, hb⟩; have n0_ := Aside0.mk (below_step HB.out hb); have n1_ := Aside0.mk (blk_below BX0.out hb); have n2_ := Aside0.mk (blk_below BX1.out hb); clear HB BX0 BX1 p0 q0 p1 q1 p2 q2 p3 q3; have HB := n0_; have BX0 := n1_; have BX1 := n2_; clear n0_ n1_ n2_ hb; have p0 : w5.cell? ⟨g0, 0, none⟩ = _ := (blk_cell BX0.out 0).trans rfl; have q0 : w5.cell? ⟨g1, 0, none⟩ = _ := (blk_cell BX1.out 0).trans rfl; have p1 : w5.cell? ⟨g0, 1, none⟩ = _ := (blk_cell BX0.out 1).trans rfl; have q1 : w5.cell? ⟨g1, 1, none⟩ = _ := (blk_cell BX1.out 1).trans rfl; have p2 : w5.cell? ⟨g0, 2, none⟩ = _ := (blk_cell BX0.out 2).trans rfl; have q2 : w5.cell? ⟨g1, 2, none⟩ = _ := (blk_cell BX1.out 2).trans rfl; have p3 : w5.cell? ⟨g0, 3, none⟩ = _ := (blk_cell BX0.out 3).trans rfl; have q3 : w5.cell? ⟨g1, 3, none⟩ = _ := (blk_cell BX1.out 3).trans rfl)))
          go_ret
          exact ⟨by rw [HE.out]; rfl, (by repeat (with_reducible first | exact HB.out | apply below_alloc | apply pw_below_drewN | (refine Below.setCell ?_ HB.out.size _)))⟩
        | true =>
          have HE : Aside0 ((eM x y) = true) := ⟨by unfold eM; rw [t0, t1, t2, t3]; rfl⟩
          have f0_0 : (x.f0.toList != y.f0.toList) = false := by simp only [bne, t0]; rfl
          have f1_0 : (x.f2 != y.f2) = false := by simp only [bne, t1]; rfl
          have f2_0 : decide (x.f3 = y.f3) = true := by simpa using t2
          go_enter Try.func21, Try.ntmps21
          go_wp2_with (first | ((with_reducible refine gate_dst (N := 2) rfl ?_); refine box_event ?hg (N := 2) ?hd (cs := #[.string x.f0, .slice A1 x.f1.length c1, .int .i64 x.f2, .bool x.f3]) (t := 72) ?hr ?_; (case hd => rfl); (case hg => rfl); (case hr => first | (go_simp; done) | (go_simp; rfl)); intro g0 hgg0 w3 hbox hb; clear hgg0; have BX0 := Aside0.mk hbox; have n0_ := Aside0.mk (below_step HB.out hb); clear HB hbox hb; have HB := n0_; clear n0_) | ((with_reducible refine gate_dst (N := 3) rfl ?_); refine box_event ?hg (N := 3) ?hd (cs := #[.string y.f0, .slice B1 y.f1.length d1, .int .i64 y.f2, .bool y.f3]) (t := 72) ?hr ?_; (case hd => rfl); (case hg => rfl); (case hr => first | (go_simp; done) | (go_simp; rfl)); intro g1 hgg1 w4 hbox hb; clear hgg1; have BX1 := Aside0.mk hbox; have n0_ := Aside0.mk (below_step HB.out hb); have n1_ := Aside0.mk (blk_below BX0.out hb); clear HB BX0 hbox hb; have HB := n0_; have BX0 := n1_; clear n0_ n1_; have p0 : w4.cell? ⟨g0, 0, none⟩ = _ := (blk_cell BX0.out 0).trans rfl; have q0 : w4.cell? ⟨g1, 0, none⟩ = _ := (blk_cell BX1.out 0).trans rfl; have p1 : w4.cell? ⟨g0, 1, none⟩ = _ := (blk_cell BX0.out 1).trans rfl; have q1 : w4.cell? ⟨g1, 1, none⟩ = _ := (blk_cell BX1.out 1).trans rfl; have p2 : w4.cell? ⟨g0, 2, none⟩ = _ := (blk_cell BX0.out 2).trans rfl; have q2 : w4.cell? ⟨g1, 2, none⟩ = _ := (blk_cell BX1.out 2).trans rfl; have p3 : w4.cell? ⟨g0, 3, none⟩ = _ := (blk_cell BX0.out 3).trans rfl; have q3 : w4.cell? ⟨g1, 3, none⟩ = _ := (blk_cell BX1.out 3).trans rfl) | (go_at_call 55; ((with_reducible refine (eqB_calls _ _ _ _ _ _ _ (Kd.C_below HR1.out HB.out) HC1.out (Kd.C_below HS1.out HB.out) HD1.out).mono ?_); rintro e w5 ⟨rfl, hb⟩; have n0_ := Aside0.mk (below_step HB.out hb); have n1_ := Aside0.mk (blk_below BX0.out hb); have n2_ := Aside0.mk (blk_below BX1.out hb); clear HB BX0 BX1 p0 q0 p1 q1 p2 q2 p3 q3; have HB := n0_; have BX0 := n1_; have BX1 := n2_; clear n0_ n1_ n2_ hb; have p0 : w5.cell? ⟨g0, 0, none⟩ = _ := (blk_cell BX0.out 0).trans rfl; have q0 : w5.cell? ⟨g1, 0, none⟩ = _ := (blk_cell BX1.out 0).trans rfl; have p1 : w5.cell? ⟨g0, 1, none⟩ = _ := (blk_cell BX0.out 1).trans rfl; have q1 : w5.cell? ⟨g1, 1, none⟩ = _ := (blk_cell BX1.out 1).trans rfl; have p2 : w5.cell? ⟨g0, 2, none⟩ = _ := (blk_cell BX0.out 2).trans rfl; have q2 : w5.cell? ⟨g1, 2, none⟩ = _ := (blk_cell BX1.out 2).trans rfl; have p3 : w5.cell? ⟨g0, 3, none⟩ = _ := (blk_cell BX0.out 3).trans rfl; have q3 : w5.cell? ⟨g1, 3, none⟩ = _ := (blk_cell BX1.out 3).trans rfl)))
          go_ret
          exact ⟨by rw [HE.out]; rfl, (by repeat (with_reducible first | exact HB.out | apply below_alloc | apply pw_below_drewN | (refine Below.setCell ?_ HB.out.size _)))⟩
theorem EFM_calls (A0 : Option Addr) (c0 : Nat) (l0 : List S72) (A1 : Option Addr) (c1 : Nat) (l1 : List S72) (w : World) (hr0 : Kd.C k72 w A0 l0.length l0) (hc0 : l0.length ≤ c0) (hr1 : Kd.C k72 w A1 l1.length l1) (hc1 : l1.length ≤ c1) :
    Calls Try.prog 20 #[.slice A0 l0.length c0, .slice A1 l1.length c1, .func (.func 21) #[] #[]] w fun e w' => e = .returned (.bool (eqL eM l0 l1)) ∧ Below w.heap.size w w' := by
  have HR0 := Aside0.mk hr0; have HR1 := Aside0.mk hr1; have HB := Aside0.mk (Below.refl w.heap.size w); have HC0 := Aside0.mk hc0; have HC1 := Aside0.mk hc1
  have hm0 := hr0.2.1
  clear hr0 hr1 hc0 hc1
  by_cases hlen : l0.length = l1.length
  · have HLEN := Aside0.mk hlen
    have b0 : ((l0.length : Int) == (l1.length : Int)) = true := by simp [hlen]
    have b1 : ((l0.length : Int) != (l1.length : Int)) = false := by simp [hlen]
    have b2 : (l0.length == l1.length) = true := by simp [hlen]
    clear hlen
    go_enter Try.func20, Try.ntmps20
    go_wp2_with fail
    go_loopw [17] (fun i wr => ∃ k : Nat, k ≤ l0.length ∧ i = .int .i64 k ∧ Aside0 (eqL eM (l0.drop k) (l1.drop k) = eqL eM l0 l1) ∧ Aside0 (Below w.heap.size w wr)) (fun i _ => l0.length - (intOf i).toNat)
    case atStart => exact ⟨0, Nat.zero_le _, rfl, ⟨rfl⟩, ⟨(by repeat (with_reducible first | exact HB.out | apply below_alloc | apply pw_below_drewN | (refine Below.setCell ?_ HB.out.size _)))⟩⟩
    case round =>
      clear HB b0 b1 b2
      obtain ⟨k, hk, rfl, HQ, HB⟩ := hrel
      obtain ⟨wo, hwo⟩ : ∃ x, x = wr := ⟨_, rfl⟩; subst hwo
      by_cases hlt : k < l0.length
      · have hlt1 : k < l1.length := by have := HLEN.out; omega
        obtain ⟨ad0, A1, c1, e_, p0, p1, p2, p3, l1_, g1_⟩ := at_T72 HR0.out (k : Int) (by omega) (by omega)
        subst e_
        obtain ⟨x, hx⟩ : ∃ z, z = rd_T72 l0 k := ⟨_, rfl⟩
        rw [← hx, Int.toNat_natCast] at p0 p1 p2 p3
        rw [← hx] at l1_ g1_
        have f0 := pw_cell_below HB.out p0; clear p0
        have f1 := pw_cell_below HB.out p1; clear p1
        have f2 := pw_cell_below HB.out p2; clear p2
        have f3 := pw_cell_below HB.out p3; clear p3
        have LA1 := Aside0.mk l1_; have GA1 := Aside0.mk g1_; clear l1_ g1_
        obtain ⟨ad1, B1, d1, e_, q0, q1, q2, q3, l1_, g1_⟩ := at_T72 HR1.out (k : Int) (by omega) (by omega)
        subst e_
        obtain ⟨y, hy⟩ : ∃ z, z = rd_T72 l1 k := ⟨_, rfl⟩
        rw [← hy, Int.toNat_natCast] at q0 q1 q2 q3
        rw [← hy] at l1_ g1_
        have g0 := pw_cell_below HB.out q0; clear q0
        have g1 := pw_cell_below HB.out q1; clear q1
        have g2 := pw_cell_below HB.out q2; clear q2
        have g3 := pw_cell_below HB.out q3; clear q3
        have LB1 := Aside0.mk l1_; have GB1 := Aside0.mk g1_; clear l1_ g1_
        have hx' := at_k hlt hx; have hy' := at_k hlt1 hy; have HXM := Aside0.mk (List.mem_of_getElem? hx'); have HYM := Aside0.mk (List.mem_of_getElem? hy'); clear hx hy
        have HS := Aside0.mk (eqL_drop (e := eM) hx' hy'); clear hx' hy'
        cases hq : eM x y with
        | false =>
          have HE : Aside0 (eqL eM l0 l1 = false) := ⟨by rw [← HQ.out, HS.out, hq]; rfl⟩
          have HQB := Aside0.mk hq; clear hq HQ HS
          have hu := Try.underlying72
          have Hf0 := Aside0.mk f0
          have Hf1 := Aside0.mk f1
          have Hf2 := Aside0.mk f2
          have Hf3 := Aside0.mk f3
          have Hg0 := Aside0.mk g0
          have Hg1 := Aside0.mk g1
          have Hg2 := Aside0.mk g2
          have Hg3 := Aside0.mk g3
          have HG := Aside0.mk (Below.refl wo.heap.size wo)
          go_wp2_with (first | ((with_reducible refine gate_dst (N := 8) rfl ?_); (refine box_event ?hg (N := 8) ?hd (cs := #[.string ⟨#[]⟩, .slice none 0 0, .int .i64 0, .bool false]) (t := 72) ?hr ?_; (case hd => rfl); (case hg => rfl); (case hr => first | (go_simp; done) | (go_simp; rfl)); intro g8 hg w8_ hbox hb; have GE8 := Aside0.mk (show wo.heap.size ≤ g8 by rw [hg]; exact HG.out.size); have BX8 := Aside0.mk hbox; have n0_ := Aside0.mk (below_step HG.out hb); clear HG hg hbox hb; have HG := n0_; clear n0_; clear f0 f1 f2 f3 g0 g1 g2 g3; have f0 := pw_cell_below HG.out Hf0.out; have f1 := pw_cell_below HG.out Hf1.out; have f2 := pw_cell_below HG.out Hf2.out; have f3 := pw_cell_below HG.out Hf3.out; have g0 := pw_cell_below HG.out Hg0.out; have g1 := pw_cell_below HG.out Hg1.out; have g2 := pw_cell_below HG.out Hg2.out; have g3 := pw_cell_below HG.out Hg3.out)) | ((with_reducible refine gate_st (y := .tmp 21) rfl ?_); (refine ev_store rfl rfl 72 (.tmp 8) (.tmp 21) rfl g8 0 rfl 72 _ _ BX8.out rfl (by kernel_rfl) (Nat.le_of_ble_eq_true rfl) rfl ?_; intro w8s_ hx hk; have n0_ : Aside0 (w8s_.heap[g8]? = some (.cells #[.string x.f0, .slice A1 x.f1.length c1, .int .i64 x.f2, .bool x.f3] 72 (0, 0))) := ⟨hx⟩; have n1_ := Aside0.mk (hk.below HG.out GE8.out); clear BX8 HG hx hk; have BX8 := n0_; have HG := n1_; clear n0_ n1_; clear f0 f1 f2 f3 g0 g1 g2 g3; have f0 := pw_cell_below HG.out Hf0.out; have f1 := pw_cell_below HG.out Hf1.out; have f2 := pw_cell_below HG.out Hf2.out; have f3 := pw_cell_below HG.out Hf3.out; have g0 := pw_cell_below HG.out Hg0.out; have g1 := pw_cell_below HG.out Hg1.out; have g2 := pw_cell_below HG.out Hg2.out; have g3 := pw_cell_below HG.out Hg3.out)) | ((with_reducible refine gate_dst (N := 9) rfl ?_); (refine box_event ?hg (N := 9) ?hd (cs := #[.string ⟨#[]⟩, .slice none 0 0, .int .i64 0, .bool false]) (t := 72) ?hr ?_; (case hd => rfl); (case hg => rfl); (case hr => first | (go_simp; done) | (go_simp; rfl)); intro g9 hg w9_ hbox hb; have GE9 := Aside0.mk (show wo.heap.size ≤ g9 by rw [hg]; exact HG.out.size); have NE := Aside0.mk (show g8 ≠ g9 by rw [hg]; exact Nat.ne_of_lt (blk_lt BX8.out)); have n1_ := Aside0.mk (blk_below BX8.out hb); clear BX8; have BX8 := n1_; clear n1_; have BX9 := Aside0.mk hbox; have n0_ := Aside0.mk (below_step HG.out hb); clear HG hg hbox hb; have HG := n0_; clear n0_; clear f0 f1 f2 f3 g0 g1 g2 g3; have f0 := pw_cell_below HG.out Hf0.out; have f1 := pw_cell_below HG.out Hf1.out; have f2 := pw_cell_below HG.out Hf2.out; have f3 := pw_cell_below HG.out Hf3.out; have g0 := pw_cell_below HG.out Hg0.out; have g1 := pw_cell_below HG.out Hg1.out; have g2 := pw_cell_below HG.out Hg2.out; have g3 := pw_cell_below HG.out Hg3.out)) | ((with_reducible refine gate_st (y := .tmp 25) rfl ?_); (refine ev_store rfl rfl 72 (.tmp 9) (.tmp 25) rfl g9 0 rfl 72 _ _ BX9.out rfl (by kernel_rfl) (Nat.le_of_ble_eq_true rfl) rfl ?_; intro w9s_ hx hk; have n2_ := Aside0.mk ((hk.keep g8 NE.out).trans BX8.out); clear BX8; have BX8 := n2_; clear n2_; have n0_ : Aside0 (w9s_.heap[g9]? = some (.cells #[.string y.f0, .slice B1 y.f1.length d1, .int .i64 y.f2, .bool y.f3] 72 (0, 0))) := ⟨hx⟩; have n1_ := Aside0.mk (hk.below HG.out GE9.out); clear BX9 HG hx hk; have BX9 := n0_; have HG := n1_; clear n0_ n1_; clear f0 f1 f2 f3 g0 g1 g2 g3; have f0 := pw_cell_below HG.out Hf0.out; have f1 := pw_cell_below HG.out Hf1.out; have f2 := pw_cell_below HG.out Hf2.out; have f3 := pw_cell_below HG.out Hf3.out; have g0 := pw_cell_below HG.out Hg0.out; have g1 := pw_cell_below HG.out Hg1.out; have g2 := pw_cell_below HG.out Hg2.out; have g3 := pw_cell_below HG.out Hg3.out)) | ((with_reducible refine gate_dst (N := 27) rfl ?_); (refine ev_load rfl 72 (.tmp 8) rfl g8 0 4 rfl 72 (0, 0) _ BX8.out _ hu rfl ([.string x.f0, .slice A1 x.f1.length c1, .int .i64 x.f2, .bool x.f3]) rfl (by kernel_rfl) ?_)) | ((with_reducible refine gate_dst (N := 28) rfl ?_); (refine ev_load rfl 72 (.tmp 9) rfl g9 0 4 rfl 72 (0, 0) _ BX9.out _ hu rfl ([.string y.f0, .slice B1 y.f1.length d1, .int .i64 y.f2, .bool y.f3]) rfl (by kernel_rfl) ?_)))
          refine (sameMessage_calls x y A1 c1 B1 d1 _ (Kd.C_below GA1.out (below_step HB.out HG.out)) LA1.out (Kd.C_below GB1.out (below_step HB.out HG.out)) LB1.out).mono ?_; rintro e w3 ⟨rfl, hb⟩; rw [HQB.out]; have n0_ := Aside0.mk (below_step (below_step HB.out HG.out) hb); clear HB HG hb; have HB := n0_; clear n0_
          go_wp2
          go_ret
          exact ⟨by rw [HE.out]; rfl, HB.out⟩
        | true =>
          have HE : Aside0 (eqL eM (l0.drop (k + 1)) (l1.drop (k + 1)) = eqL eM l0 l1) := ⟨by rw [← HQ.out, HS.out, hq]; rfl⟩
          have HQB := Aside0.mk hq; clear hq HQ HS
          have hu := Try.underlying72
          have Hf0 := Aside0.mk f0
          have Hf1 := Aside0.mk f1
          have Hf2 := Aside0.mk f2
          have Hf3 := Aside0.mk f3
          have Hg0 := Aside0.mk g0
          have Hg1 := Aside0.mk g1
          have Hg2 := Aside0.mk g2
          have Hg3 := Aside0.mk g3
          have HG := Aside0.mk (Below.refl wo.heap.size wo)
          go_wp2_with (first | ((with_reducible refine gate_dst (N := 8) rfl ?_); (refine box_event ?hg (N := 8) ?hd (cs := #[.string ⟨#[]⟩, .slice none 0 0, .int .i64 0, .bool false]) (t := 72) ?hr ?_; (case hd => rfl); (case hg => rfl); (case hr => first | (go_simp; done) | (go_simp; rfl)); intro g8 hg w8_ hbox hb; have GE8 := Aside0.mk (show wo.heap.size ≤ g8 by rw [hg]; exact HG.out.size); have BX8 := Aside0.mk hbox; have n0_ := Aside0.mk (below_step HG.out hb); clear HG hg hbox hb; have HG := n0_; clear n0_; clear f0 f1 f2 f3 g0 g1 g2 g3; have f0 := pw_cell_below HG.out Hf0.out; have f1 := pw_cell_below HG.out Hf1.out; have f2 := pw_cell_below HG.out Hf2.out; have f3 := pw_cell_below HG.out Hf3.out; have g0 := pw_cell_below HG.out Hg0.out; have g1 := pw_cell_below HG.out Hg1.out; have g2 := pw_cell_below HG.out Hg2.out; have g3 := pw_cell_below HG.out Hg3.out)) | ((with_reducible refine gate_st (y := .tmp 21) rfl ?_); (refine ev_store rfl rfl 72 (.tmp 8) (.tmp 21) rfl g8 0 rfl 72 _ _ BX8.out rfl (by kernel_rfl) (Nat.le_of_ble_eq_true rfl) rfl ?_; intro w8s_ hx hk; have n0_ : Aside0 (w8s_.heap[g8]? = some (.cells #[.string x.f0, .slice A1 x.f1.length c1, .int .i64 x.f2, .bool x.f3] 72 (0, 0))) := ⟨hx⟩; have n1_ := Aside0.mk (hk.below HG.out GE8.out); clear BX8 HG hx hk; have BX8 := n0_; have HG := n1_; clear n0_ n1_; clear f0 f1 f2 f3 g0 g1 g2 g3; have f0 := pw_cell_below HG.out Hf0.out; have f1 := pw_cell_below HG.out Hf1.out; have f2 := pw_cell_below HG.out Hf2.out; have f3 := pw_cell_below HG.out Hf3.out; have g0 := pw_cell_below HG.out Hg0.out; have g1 := pw_cell_below HG.out Hg1.out; have g2 := pw_cell_below HG.out Hg2.out; have g3 := pw_cell_below HG.out Hg3.out)) | ((with_reducible refine gate_dst (N := 9) rfl ?_); (refine box_event ?hg (N := 9) ?hd (cs := #[.string ⟨#[]⟩, .slice none 0 0, .int .i64 0, .bool false]) (t := 72) ?hr ?_; (case hd => rfl); (case hg => rfl); (case hr => first | (go_simp; done) | (go_simp; rfl)); intro g9 hg w9_ hbox hb; have GE9 := Aside0.mk (show wo.heap.size ≤ g9 by rw [hg]; exact HG.out.size); have NE := Aside0.mk (show g8 ≠ g9 by rw [hg]; exact Nat.ne_of_lt (blk_lt BX8.out)); have n1_ := Aside0.mk (blk_below BX8.out hb); clear BX8; have BX8 := n1_; clear n1_; have BX9 := Aside0.mk hbox; have n0_ := Aside0.mk (below_step HG.out hb); clear HG hg hbox hb; have HG := n0_; clear n0_; clear f0 f1 f2 f3 g0 g1 g2 g3; have f0 := pw_cell_below HG.out Hf0.out; have f1 := pw_cell_below HG.out Hf1.out; have f2 := pw_cell_below HG.out Hf2.out; have f3 := pw_cell_below HG.out Hf3.out; have g0 := pw_cell_below HG.out Hg0.out; have g1 := pw_cell_below HG.out Hg1.out; have g2 := pw_cell_below HG.out Hg2.out; have g3 := pw_cell_below HG.out Hg3.out)) | ((with_reducible refine gate_st (y := .tmp 25) rfl ?_); (refine ev_store rfl rfl 72 (.tmp 9) (.tmp 25) rfl g9 0 rfl 72 _ _ BX9.out rfl (by kernel_rfl) (Nat.le_of_ble_eq_true rfl) rfl ?_; intro w9s_ hx hk; have n2_ := Aside0.mk ((hk.keep g8 NE.out).trans BX8.out); clear BX8; have BX8 := n2_; clear n2_; have n0_ : Aside0 (w9s_.heap[g9]? = some (.cells #[.string y.f0, .slice B1 y.f1.length d1, .int .i64 y.f2, .bool y.f3] 72 (0, 0))) := ⟨hx⟩; have n1_ := Aside0.mk (hk.below HG.out GE9.out); clear BX9 HG hx hk; have BX9 := n0_; have HG := n1_; clear n0_ n1_; clear f0 f1 f2 f3 g0 g1 g2 g3; have f0 := pw_cell_below HG.out Hf0.out; have f1 := pw_cell_below HG.out Hf1.out; have f2 := pw_cell_below HG.out Hf2.out; have f3 := pw_cell_below HG.out Hf3.out; have g0 := pw_cell_below HG.out Hg0.out; have g1 := pw_cell_below HG.out Hg1.out; have g2 := pw_cell_below HG.out Hg2.out; have g3 := pw_cell_below HG.out Hg3.out)) | ((with_reducible refine gate_dst (N := 27) rfl ?_); (refine ev_load rfl 72 (.tmp 8) rfl g8 0 4 rfl 72 (0, 0) _ BX8.out _ hu rfl ([.string x.f0, .slice A1 x.f1.length c1, .int .i64 x.f2, .bool x.f3]) rfl (by kernel_rfl) ?_)) | ((with_reducible refine gate_dst (N := 28) rfl ?_); (refine ev_load rfl 72 (.tmp 9) rfl g9 0 4 rfl 72 (0, 0) _ BX9.out _ hu rfl ([.string y.f0, .slice B1 y.f1.length d1, .int .i64 y.f2, .bool y.f3]) rfl (by kernel_rfl) ?_)))
          refine (sameMessage_calls x y A1 c1 B1 d1 _ (Kd.C_below GA1.out (below_step HB.out HG.out)) LA1.out (Kd.C_below GB1.out (below_step HB.out HG.out)) LB1.out).mono ?_; rintro e w3 ⟨rfl, hb⟩; rw [HQB.out]; have n0_ := Aside0.mk (below_step (below_step HB.out HG.out) hb); clear HB HG hb; have HB := n0_; clear n0_
          go_wp2
          go_roundw
          case rel => exact ⟨k + 1, by omega, by go_num, HE, HB⟩
          case measure => simp [intOf]; omega
      · obtain rfl : k = l0.length := by omega
        have HE : Aside0 (eqL eM l0 l1 = true) := ⟨by rw [← HQ.out]; exact eqL_end HLEN.out⟩
        clear HQ
        go_wp2
        go_ret
        exact ⟨by rw [HE.out]; rfl, HB.out⟩
  · have HE : Aside0 (eqL eM l0 l1 = false) := ⟨eqL_ne hlen⟩
    have b0 : ((l0.length : Int) == (l1.length : Int)) = false := by simp; omega
    have b1 : ((l0.length : Int) != (l1.length : Int)) = true := by simp; omega
    have b2 : (l0.length == l1.length) = false := by simp; omega
    clear hlen
    go_enter Try.func20, Try.ntmps20
    go_wp2
    go_ret
    exact ⟨by rw [HE.out]; rfl, HB.out⟩
theorem sameFlight_calls (x y : S76) (A2 : Option Addr) (c2 : Nat) (B2 : Option Addr) (d2 : Nat) (w : World) (hr2 : Kd.C (Kd.int .u8) w A2 x.f1.f1.length x.f1.f1) (hc2 : x.f1.f1.length ≤ c2) (hs2 : Kd.C (Kd.int .u8) w B2 y.f1.f1.length y.f1.f1) (hd2 : y.f1.f1.length ≤ d2) :
    Calls Try.prog 53 #[.agg #[.int .i64 x.f0, .string x.f1.f0, .slice A2 x.f1.f1.length c2, .int .i64 x.f1.f2, .bool x.f1.f3, .bool x.f2], .agg #[.int .i64 y.f0, .string y.f1.f0, .slice B2 y.f1.f1.length d2, .int .i64 y.f1.f2, .bool y.f1.f3, .bool y.f2]] w fun e w' => e = .returned (.bool (eF x y)) ∧ Below w.heap.size w w' := by
  have HR2 := Aside0.mk hr2; have HC2 := Aside0.mk hc2; have HS2 := Aside0.mk hs2; have HD2 := Aside0.mk hd2
  have HB := Aside0.mk (Below.refl w.heap.size w)
  clear hr2 hc2 hs2 hd2
  cases t0 : (x.f0 == y.f0) with
  | false =>
    have HE : Aside0 ((eF x y) = false) := ⟨by unfold eF; rw [t0]; rfl⟩
    have f0_0 : (x.f0 != y.f0) = true := by simp only [bne, t0]; rfl
    go_enter Try.func53, Try.ntmps53
    go_wp2_with (first | ((with_reducible refine gate_dst (N := 2) rfl ?_); refine box_event ?hg (N := 2) ?hd (cs := #[.int .i64 x.f0, .string x.f1.f0, .slice A2 x.f1.f1.length c2, .int .i64 x.f1.f2, .bool x.f1.f3, .bool x.f2]) (t := 76) ?hr ?_; (case hd => rfl); (case hg => rfl); (case hr => first | (go_simp; done) | (go_simp; rfl)); intro g0 hgg0 w3 hbox hb; clear hgg0; have BX0 := Aside0.mk hbox; have n0_ := Aside0.mk (below_step HB.out hb); clear HB hbox hb; have HB := n0_; clear n0_) | ((with_reducible refine gate_dst (N := 3) rfl ?_); refine box_event ?hg (N := 3) ?hd (cs := #[.int .i64 y.f0, .string y.f1.f0, .slice B2 y.f1.f1.length d2, .int .i64 y.f1.f2, .bool y.f1.f3, .bool y.f2]) (t := 76) ?hr ?_; (case hd => rfl); (case hg => rfl); (case hr => first | (go_simp; done) | (go_simp; rfl)); intro g1 hgg1 w4 hbox hb; clear hgg1; have BX1 := Aside0.mk hbox; have n0_ := Aside0.mk (below_step HB.out hb); have n1_ := Aside0.mk (blk_below BX0.out hb); clear HB BX0 hbox hb; have HB := n0_; have BX0 := n1_; clear n0_ n1_; have p0 : w4.cell? ⟨g0, 0, none⟩ = _ := (blk_cell BX0.out 0).trans rfl; have q0 : w4.cell? ⟨g1, 0, none⟩ = _ := (blk_cell BX1.out 0).trans rfl; have p1 : w4.cell? ⟨g0, 1, none⟩ = _ := (blk_cell BX0.out 1).trans rfl; have q1 : w4.cell? ⟨g1, 1, none⟩ = _ := (blk_cell BX1.out 1).trans rfl; have p2 : w4.cell? ⟨g0, 2, none⟩ = _ := (blk_cell BX0.out 2).trans rfl; have q2 : w4.cell? ⟨g1, 2, none⟩ = _ := (blk_cell BX1.out 2).trans rfl; have p3 : w4.cell? ⟨g0, 3, none⟩ = _ := (blk_cell BX0.out 3).trans rfl; have q3 : w4.cell? ⟨g1, 3, none⟩ = _ := (blk_cell BX1.out 3).trans rfl; have p4 : w4.cell? ⟨g0, 4, none⟩ = _ := (blk_cell BX0.out 4).trans rfl; have q4 : w4.cell? ⟨g1, 4, none⟩ = _ := (blk_cell BX1.out 4).trans rfl; have p5 : w4.cell? ⟨g0, 5, none⟩ = _ := (blk_cell BX0.out 5).trans rfl; have q5 : w4.cell? ⟨g1, 5, none⟩ = _ := (blk_cell BX1.out 5).trans rfl))
    go_ret
    exact ⟨by rw [HE.out]; rfl, (by repeat (with_reducible first | exact HB.out | apply below_alloc | apply pw_below_drewN | (refine Below.setCell ?_ HB.out.size _)))⟩
  | true =>
    cases t1 : (x.f2 == y.f2) with
    | false =>
      have HE : Aside0 ((eF x y) = false) := ⟨by unfold eF; rw [t0, t1]; rfl⟩
      have f0_0 : (x.f0 != y.f0) = false := by simp only [bne, t0]; rfl
      have f1_0 : decide (x.f2 = y.f2) = false := by simpa using t1
      go_enter Try.func53, Try.ntmps53
      go_wp2_with (first | ((with_reducible refine gate_dst (N := 2) rfl ?_); refine box_event ?hg (N := 2) ?hd (cs := #[.int .i64 x.f0, .string x.f1.f0, .slice A2 x.f1.f1.length c2, .int .i64 x.f1.f2, .bool x.f1.f3, .bool x.f2]) (t := 76) ?hr ?_; (case hd => rfl); (case hg => rfl); (case hr => first | (go_simp; done) | (go_simp; rfl)); intro g0 hgg0 w3 hbox hb; clear hgg0; have BX0 := Aside0.mk hbox; have n0_ := Aside0.mk (below_step HB.out hb); clear HB hbox hb; have HB := n0_; clear n0_) | ((with_reducible refine gate_dst (N := 3) rfl ?_); refine box_event ?hg (N := 3) ?hd (cs := #[.int .i64 y.f0, .string y.f1.f0, .slice B2 y.f1.f1.length d2, .int .i64 y.f1.f2, .bool y.f1.f3, .bool y.f2]) (t := 76) ?hr ?_; (case hd => rfl); (case hg => rfl); (case hr => first | (go_simp; done) | (go_simp; rfl)); intro g1 hgg1 w4 hbox hb; clear hgg1; have BX1 := Aside0.mk hbox; have n0_ := Aside0.mk (below_step HB.out hb); have n1_ := Aside0.mk (blk_below BX0.out hb); clear HB BX0 hbox hb; have HB := n0_; have BX0 := n1_; clear n0_ n1_; have p0 : w4.cell? ⟨g0, 0, none⟩ = _ := (blk_cell BX0.out 0).trans rfl; have q0 : w4.cell? ⟨g1, 0, none⟩ = _ := (blk_cell BX1.out 0).trans rfl; have p1 : w4.cell? ⟨g0, 1, none⟩ = _ := (blk_cell BX0.out 1).trans rfl; have q1 : w4.cell? ⟨g1, 1, none⟩ = _ := (blk_cell BX1.out 1).trans rfl; have p2 : w4.cell? ⟨g0, 2, none⟩ = _ := (blk_cell BX0.out 2).trans rfl; have q2 : w4.cell? ⟨g1, 2, none⟩ = _ := (blk_cell BX1.out 2).trans rfl; have p3 : w4.cell? ⟨g0, 3, none⟩ = _ := (blk_cell BX0.out 3).trans rfl; have q3 : w4.cell? ⟨g1, 3, none⟩ = _ := (blk_cell BX1.out 3).trans rfl; have p4 : w4.cell? ⟨g0, 4, none⟩ = _ := (blk_cell BX0.out 4).trans rfl; have q4 : w4.cell? ⟨g1, 4, none⟩ = _ := (blk_cell BX1.out 4).trans rfl; have p5 : w4.cell? ⟨g0, 5, none⟩ = _ := (blk_cell BX0.out 5).trans rfl; have q5 : w4.cell? ⟨g1, 5, none⟩ = _ := (blk_cell BX1.out 5).trans rfl))
      go_ret
      exact ⟨by rw [HE.out]; rfl, (by repeat (with_reducible first | exact HB.out | apply below_alloc | apply pw_below_drewN | (refine Below.setCell ?_ HB.out.size _)))⟩
    | true =>
      cases t2 : (eM x.f1 y.f1) with
      | false =>
        have HE : Aside0 ((eF x y) = false) := ⟨by unfold eF; rw [t0, t1, t2]; rfl⟩
        have f0_0 : (x.f0 != y.f0) = false := by simp only [bne, t0]; rfl
        have f1_0 : decide (x.f2 = y.f2) = true := by simpa using t1
        go_enter Try.func53, Try.ntmps53
        go_wp2_with (first | ((with_reducible refine gate_dst (N := 2) rfl ?_); refine box_event ?hg (N := 2) ?hd (cs := #[.int .i64 x.f0, .string x.f1.f0, .slice A2 x.f1.f1.length c2, .int .i64 x.f1.f2, .bool x.f1.f3, .bool x.f2]) (t := 76) ?hr ?_; (case hd => rfl); (case hg => rfl); (case hr => first | (go_simp; done) | (go_simp; rfl)); intro g0 hgg0 w3 hbox hb; clear hgg0; have BX0 := Aside0.mk hbox; have n0_ := Aside0.mk (below_step HB.out hb); clear HB hbox hb; have HB := n0_; clear n0_) | ((with_reducible refine gate_dst (N := 3) rfl ?_); refine box_event ?hg (N := 3) ?hd (cs := #[.int .i64 y.f0, .string y.f1.f0, .slice B2 y.f1.f1.length d2, .int .i64 y.f1.f2, .bool y.f1.f3, .bool y.f2]) (t := 76) ?hr ?_; (case hd => rfl); (case hg => rfl); (case hr => first | (go_simp; done) | (go_simp; rfl)); intro g1 hgg1 w4 hbox hb; clear hgg1; have BX1 := Aside0.mk hbox; have n0_ := Aside0.mk (below_step HB.out hb); have n1_ := Aside0.mk (blk_below BX0.out hb); clear HB BX0 hbox hb; have HB := n0_; have BX0 := n1_; clear n0_ n1_; have p0 : w4.cell? ⟨g0, 0, none⟩ = _ := (blk_cell BX0.out 0).trans rfl; have q0 : w4.cell? ⟨g1, 0, none⟩ = _ := (blk_cell BX1.out 0).trans rfl; have p1 : w4.cell? ⟨g0, 1, none⟩ = _ := (blk_cell BX0.out 1).trans rfl; have q1 : w4.cell? ⟨g1, 1, none⟩ = _ := (blk_cell BX1.out 1).trans rfl; have p2 : w4.cell? ⟨g0, 2, none⟩ = _ := (blk_cell BX0.out 2).trans rfl; have q2 : w4.cell? ⟨g1, 2, none⟩ = _ := (blk_cell BX1.out 2).trans rfl; have p3 : w4.cell? ⟨g0, 3, none⟩ = _ := (blk_cell BX0.out 3).trans rfl; have q3 : w4.cell? ⟨g1, 3, none⟩ = _ := (blk_cell BX1.out 3).trans rfl; have p4 : w4.cell? ⟨g0, 4, none⟩ = _ := (blk_cell BX0.out 4).trans rfl; have q4 : w4.cell? ⟨g1, 4, none⟩ = _ := (blk_cell BX1.out 4).trans rfl; have p5 : w4.cell? ⟨g0, 5, none⟩ = _ := (blk_cell BX0.out 5).trans rfl; have q5 : w4.cell? ⟨g1, 5, none⟩ = _ := (blk_cell BX1.out 5).trans rfl) | (go_at_call 21; ((with_reducible refine (sameMessage_calls x.f1 y.f1 _ _ _ _ _ (Kd.C_below HR2.out HB.out) HC2.out (Kd.C_below HS2.out HB.out) HD2.out).mono ?_); rintro e w5 ⟨rfl, hb⟩; have n0_ := Aside0.mk (below_step HB.out hb); have n1_ := Aside0.mk (blk_below BX0.out hb); have n2_ := Aside0.mk (blk_below BX1.out hb); clear HB BX0 BX1 p0 q0 p1 q1 p2 q2 p3 q3 p4 q4 p5 q5; have HB := n0_; have BX0 := n1_; have BX1 := n2_; clear n0_ n1_ n2_ hb; have p0 : w5.cell? ⟨g0, 0, none⟩ = _ := (blk_cell BX0.out 0).trans rfl; have q0 : w5.cell? ⟨g1, 0, none⟩ = _ := (blk_cell BX1.out 0).trans rfl; have p1 : w5.cell? ⟨g0, 1, none⟩ = _ := (blk_cell BX0.out 1).trans rfl; have q1 : w5.cell? ⟨g1, 1, none⟩ = _ := (blk_cell BX1.out 1).trans rfl; have p2 : w5.cell? ⟨g0, 2, none⟩ = _ := (blk_cell BX0.out 2).trans rfl; have q2 : w5.cell? ⟨g1, 2, none⟩ = _ := (blk_cell BX1.out 2).trans rfl; have p3 : w5.cell? ⟨g0, 3, none⟩ = _ := (blk_cell BX0.out 3).trans rfl; have q3 : w5.cell? ⟨g1, 3, none⟩ = _ := (blk_cell BX1.out 3).trans rfl; have p4 : w5.cell? ⟨g0, 4, none⟩ = _ := (blk_cell BX0.out 4).trans rfl; have q4 : w5.cell? ⟨g1, 4, none⟩ = _ := (blk_cell BX1.out 4).trans rfl; have p5 : w5.cell? ⟨g0, 5, none⟩ = _ := (blk_cell BX0.out 5).trans rfl; have q5 : w5.cell? ⟨g1, 5, none⟩ = _ := (blk_cell BX1.out 5).trans rfl)))
        go_ret
        exact ⟨by rw [HE.out]; rfl, (by repeat (with_reducible first | exact HB.out | apply below_alloc | apply pw_below_drewN | (refine Below.setCell ?_ HB.out.size _)))⟩
      | true =>
        have HE : Aside0 ((eF x y) = true) := ⟨by unfold eF; rw [t0, t1, t2]; rfl⟩
        have f0_0 : (x.f0 != y.f0) = false := by simp only [bne, t0]; rfl
        have f1_0 : decide (x.f2 = y.f2) = true := by simpa using t1
        go_enter Try.func53, Try.ntmps53
        go_wp2_with (first | ((with_reducible refine gate_dst (N := 2) rfl ?_); refine box_event ?hg (N := 2) ?hd (cs := #[.int .i64 x.f0, .string x.f1.f0, .slice A2 x.f1.f1.length c2, .int .i64 x.f1.f2, .bool x.f1.f3, .bool x.f2]) (t := 76) ?hr ?_; (case hd => rfl); (case hg => rfl); (case hr => first | (go_simp; done) | (go_simp; rfl)); intro g0 hgg0 w3 hbox hb; clear hgg0; have BX0 := Aside0.mk hbox; have n0_ := Aside0.mk (below_step HB.out hb); clear HB hbox hb; have HB := n0_; clear n0_) | ((with_reducible refine gate_dst (N := 3) rfl ?_); refine box_event ?hg (N := 3) ?hd (cs := #[.int .i64 y.f0, .string y.f1.f0, .slice B2 y.f1.f1.length d2, .int .i64 y.f1.f2, .bool y.f1.f3, .bool y.f2]) (t := 76) ?hr ?_; (case hd => rfl); (case hg => rfl); (case hr => first | (go_simp; done) | (go_simp; rfl)); intro g1 hgg1 w4 hbox hb; clear hgg1; have BX1 := Aside0.mk hbox; have n0_ := Aside0.mk (below_step HB.out hb); have n1_ := Aside0.mk (blk_below BX0.out hb); clear HB BX0 hbox hb; have HB := n0_; have BX0 := n1_; clear n0_ n1_; have p0 : w4.cell? ⟨g0, 0, none⟩ = _ := (blk_cell BX0.out 0).trans rfl; have q0 : w4.cell? ⟨g1, 0, none⟩ = _ := (blk_cell BX1.out 0).trans rfl; have p1 : w4.cell? ⟨g0, 1, none⟩ = _ := (blk_cell BX0.out 1).trans rfl; have q1 : w4.cell? ⟨g1, 1, none⟩ = _ := (blk_cell BX1.out 1).trans rfl; have p2 : w4.cell? ⟨g0, 2, none⟩ = _ := (blk_cell BX0.out 2).trans rfl; have q2 : w4.cell? ⟨g1, 2, none⟩ = _ := (blk_cell BX1.out 2).trans rfl; have p3 : w4.cell? ⟨g0, 3, none⟩ = _ := (blk_cell BX0.out 3).trans rfl; have q3 : w4.cell? ⟨g1, 3, none⟩ = _ := (blk_cell BX1.out 3).trans rfl; have p4 : w4.cell? ⟨g0, 4, none⟩ = _ := (blk_cell BX0.out 4).trans rfl; have q4 : w4.cell? ⟨g1, 4, none⟩ = _ := (blk_cell BX1.out 4).trans rfl; have p5 : w4.cell? ⟨g0, 5, none⟩ = _ := (blk_cell BX0.out 5).trans rfl; have q5 : w4.cell? ⟨g1, 5, none⟩ = _ := (blk_cell BX1.out 5).trans rfl) | (go_at_call 21; ((with_reducible refine (sameMessage_calls x.f1 y.f1 _ _ _ _ _ (Kd.C_below HR2.out HB.out) HC2.out (Kd.C_below HS2.out HB.out) HD2.out).mono ?_); rintro e w5 ⟨rfl, hb⟩; have n0_ := Aside0.mk (below_step HB.out hb); have n1_ := Aside0.mk (blk_below BX0.out hb); have n2_ := Aside0.mk (blk_below BX1.out hb); clear HB BX0 BX1 p0 q0 p1 q1 p2 q2 p3 q3 p4 q4 p5 q5; have HB := n0_; have BX0 := n1_; have BX1 := n2_; clear n0_ n1_ n2_ hb; have p0 : w5.cell? ⟨g0, 0, none⟩ = _ := (blk_cell BX0.out 0).trans rfl; have q0 : w5.cell? ⟨g1, 0, none⟩ = _ := (blk_cell BX1.out 0).trans rfl; have p1 : w5.cell? ⟨g0, 1, none⟩ = _ := (blk_cell BX0.out 1).trans rfl; have q1 : w5.cell? ⟨g1, 1, none⟩ = _ := (blk_cell BX1.out 1).trans rfl; have p2 : w5.cell? ⟨g0, 2, none⟩ = _ := (blk_cell BX0.out 2).trans rfl; have q2 : w5.cell? ⟨g1, 2, none⟩ = _ := (blk_cell BX1.out 2).trans rfl; have p3 : w5.cell? ⟨g0, 3, none⟩ = _ := (blk_cell BX0.out 3).trans rfl; have q3 : w5.cell? ⟨g1, 3, none⟩ = _ := (blk_cell BX1.out 3).trans rfl; have p4 : w5.cell? ⟨g0, 4, none⟩ = _ := (blk_cell BX0.out 4).trans rfl; have q4 : w5.cell? ⟨g1, 4, none⟩ = _ := (blk_cell BX1.out 4).trans rfl; have p5 : w5.cell? ⟨g0, 5, none⟩ = _ := (blk_cell BX0.out 5).trans rfl; have q5 : w5.cell? ⟨g1, 5, none⟩ = _ := (blk_cell BX1.out 5).trans rfl)))
        go_ret
        exact ⟨by rw [HE.out]; rfl, (by repeat (with_reducible first | exact HB.out | apply below_alloc | apply pw_below_drewN | (refine Below.setCell ?_ HB.out.size _)))⟩
theorem EFF_calls (A0 : Option Addr) (c0 : Nat) (l0 : List S76) (A1 : Option Addr) (c1 : Nat) (l1 : List S76) (w : World) (hr0 : Kd.C k76 w A0 l0.length l0) (hc0 : l0.length ≤ c0) (hr1 : Kd.C k76 w A1 l1.length l1) (hc1 : l1.length ≤ c1) :
    Calls Try.prog 52 #[.slice A0 l0.length c0, .slice A1 l1.length c1, .func (.func 53) #[] #[]] w fun e w' => e = .returned (.bool (eqL eF l0 l1)) ∧ Below w.heap.size w w' := by
  have HR0 := Aside0.mk hr0; have HR1 := Aside0.mk hr1; have HB := Aside0.mk (Below.refl w.heap.size w); have HC0 := Aside0.mk hc0; have HC1 := Aside0.mk hc1
  have hm0 := hr0.2.1
  clear hr0 hr1 hc0 hc1
  by_cases hlen : l0.length = l1.length
  · have HLEN := Aside0.mk hlen
    have b0 : ((l0.length : Int) == (l1.length : Int)) = true := by simp [hlen]
    have b1 : ((l0.length : Int) != (l1.length : Int)) = false := by simp [hlen]
    have b2 : (l0.length == l1.length) = true := by simp [hlen]
    clear hlen
    go_enter Try.func52, Try.ntmps52
    go_wp2_with fail
    go_loopw [17] (fun i wr => ∃ k : Nat, k ≤ l0.length ∧ i = .int .i64 k ∧ Aside0 (eqL eF (l0.drop k) (l1.drop k) = eqL eF l0 l1) ∧ Aside0 (Below w.heap.size w wr)) (fun i _ => l0.length - (intOf i).toNat)
    case atStart => exact ⟨0, Nat.zero_le _, rfl, ⟨rfl⟩, ⟨(by repeat (with_reducible first | exact HB.out | apply below_alloc | apply pw_below_drewN | (refine Below.setCell ?_ HB.out.size _)))⟩⟩
    case round =>
      clear HB b0 b1 b2
      obtain ⟨k, hk, rfl, HQ, HB⟩ := hrel
      obtain ⟨wo, hwo⟩ : ∃ x, x = wr := ⟨_, rfl⟩; subst hwo
      by_cases hlt : k < l0.length
      · have hlt1 : k < l1.length := by have := HLEN.out; omega
        obtain ⟨ad0, A2, c2, e_, p0, p1, p2, p3, p4, p5, l2_, g2_⟩ := at_T76 HR0.out (k : Int) (by omega) (by omega)
        subst e_
        obtain ⟨x, hx⟩ : ∃ z, z = rd_T76 l0 k := ⟨_, rfl⟩
        rw [← hx, Int.toNat_natCast] at p0 p1 p2 p3 p4 p5
        rw [← hx] at l2_ g2_
        have f0 := pw_cell_below HB.out p0; clear p0
        have f1 := pw_cell_below HB.out p1; clear p1
        have f2 := pw_cell_below HB.out p2; clear p2
        have f3 := pw_cell_below HB.out p3; clear p3
        have f4 := pw_cell_below HB.out p4; clear p4
        have f5 := pw_cell_below HB.out p5; clear p5
        have LA2 := Aside0.mk l2_; have GA2 := Aside0.mk g2_; clear l2_ g2_
        obtain ⟨ad1, B2, d2, e_, q0, q1, q2, q3, q4, q5, l2_, g2_⟩ := at_T76 HR1.out (k : Int) (by omega) (by omega)
        subst e_
        obtain ⟨y, hy⟩ : ∃ z, z = rd_T76 l1 k := ⟨_, rfl⟩
        rw [← hy, Int.toNat_natCast] at q0 q1 q2 q3 q4 q5
        rw [← hy] at l2_ g2_
        have g0 := pw_cell_below HB.out q0; clear q0
        have g1 := pw_cell_below HB.out q1; clear q1
        have g2 := pw_cell_below HB.out q2; clear q2
        have g3 := pw_cell_below HB.out q3; clear q3
        have g4 := pw_cell_below HB.out q4; clear q4
        have g5 := pw_cell_below HB.out q5; clear q5
        have LB2 := Aside0.mk l2_; have GB2 := Aside0.mk g2_; clear l2_ g2_
        have hx' := at_k hlt hx; have hy' := at_k hlt1 hy; have HXM := Aside0.mk (List.mem_of_getElem? hx'); have HYM := Aside0.mk (List.mem_of_getElem? hy'); clear hx hy
        have HS := Aside0.mk (eqL_drop (e := eF) hx' hy'); clear hx' hy'
        cases hq : eF x y with
        | false =>
          have HE : Aside0 (eqL eF l0 l1 = false) := ⟨by rw [← HQ.out, HS.out, hq]; rfl⟩
          have HQB := Aside0.mk hq; clear hq HQ HS
          have hu := Try.underlying76
          have Hf0 := Aside0.mk f0
          have Hf1 := Aside0.mk f1
          have Hf2 := Aside0.mk f2
          have Hf3 := Aside0.mk f3
          have Hf4 := Aside0.mk f4
          have Hf5 := Aside0.mk f5
          have Hg0 := Aside0.mk g0
          have Hg1 := Aside0.mk g1
          have Hg2 := Aside0.mk g2
          have Hg3 := Aside0.mk g3
          have Hg4 := Aside0.mk g4
          have Hg5 := Aside0.mk g5
          have HG := Aside0.mk (Below.refl wo.heap.size wo)
          go_wp2_with (first | ((with_reducible refine gate_dst (N := 8) rfl ?_); (refine box_event ?hg (N := 8) ?hd (cs := #[.int .i64 0, .string ⟨#[]⟩, .slice none 0 0, .int .i64 0, .bool false, .bool false]) (t := 76) ?hr ?_; (case hd => rfl); (case hg => rfl); (case hr => first | (go_simp; done) | (go_simp; rfl)); intro g8 hg w8_ hbox hb; have GE8 := Aside0.mk (show wo.heap.size ≤ g8 by rw [hg]; exact HG.out.size); have BX8 := Aside0.mk hbox; have n0_ := Aside0.mk (below_step HG.out hb); clear HG hg hbox hb; have HG := n0_; clear n0_; clear f0 f1 f2 f3 f4 f5 g0 g1 g2 g3 g4 g5; have f0 := pw_cell_below HG.out Hf0.out; have f1 := pw_cell_below HG.out Hf1.out; have f2 := pw_cell_below HG.out Hf2.out; have f3 := pw_cell_below HG.out Hf3.out; have f4 := pw_cell_below HG.out Hf4.out; have f5 := pw_cell_below HG.out Hf5.out; have g0 := pw_cell_below HG.out Hg0.out; have g1 := pw_cell_below HG.out Hg1.out; have g2 := pw_cell_below HG.out Hg2.out; have g3 := pw_cell_below HG.out Hg3.out; have g4 := pw_cell_below HG.out Hg4.out; have g5 := pw_cell_below HG.out Hg5.out)) | ((with_reducible refine gate_st (y := .tmp 21) rfl ?_); (refine ev_store rfl rfl 76 (.tmp 8) (.tmp 21) rfl g8 0 rfl 76 _ _ BX8.out rfl (by kernel_rfl) (Nat.le_of_ble_eq_true rfl) rfl ?_; intro w8s_ hx hk; have n0_ : Aside0 (w8s_.heap[g8]? = some (.cells #[.int .i64 x.f0, .string x.f1.f0, .slice A2 x.f1.f1.length c2, .int .i64 x.f1.f2, .bool x.f1.f3, .bool x.f2] 76 (0, 0))) := ⟨hx⟩; have n1_ := Aside0.mk (hk.below HG.out GE8.out); clear BX8 HG hx hk; have BX8 := n0_; have HG := n1_; clear n0_ n1_; clear f0 f1 f2 f3 f4 f5 g0 g1 g2 g3 g4 g5; have f0 := pw_cell_below HG.out Hf0.out; have f1 := pw_cell_below HG.out Hf1.out; have f2 := pw_cell_below HG.out Hf2.out; have f3 := pw_cell_below HG.out Hf3.out; have f4 := pw_cell_below HG.out Hf4.out; have f5 := pw_cell_below HG.out Hf5.out; have g0 := pw_cell_below HG.out Hg0.out; have g1 := pw_cell_below HG.out Hg1.out; have g2 := pw_cell_below HG.out Hg2.out; have g3 := pw_cell_below HG.out Hg3.out; have g4 := pw_cell_below HG.out Hg4.out; have g5 := pw_cell_below HG.out Hg5.out)) | ((with_reducible refine gate_dst (N := 9) rfl ?_); (refine box_event ?hg (N := 9) ?hd (cs := #[.int .i64 0, .string ⟨#[]⟩, .slice none 0 0, .int .i64 0, .bool false, .bool false]) (t := 76) ?hr ?_; (case hd => rfl); (case hg => rfl); (case hr => first | (go_simp; done) | (go_simp; rfl)); intro g9 hg w9_ hbox hb; have GE9 := Aside0.mk (show wo.heap.size ≤ g9 by rw [hg]; exact HG.out.size); have NE := Aside0.mk (show g8 ≠ g9 by rw [hg]; exact Nat.ne_of_lt (blk_lt BX8.out)); have n1_ := Aside0.mk (blk_below BX8.out hb); clear BX8; have BX8 := n1_; clear n1_; have BX9 := Aside0.mk hbox; have n0_ := Aside0.mk (below_step HG.out hb); clear HG hg hbox hb; have HG := n0_; clear n0_; clear f0 f1 f2 f3 f4 f5 g0 g1 g2 g3 g4 g5; have f0 := pw_cell_below HG.out Hf0.out; have f1 := pw_cell_below HG.out Hf1.out; have f2 := pw_cell_below HG.out Hf2.out; have f3 := pw_cell_below HG.out Hf3.out; have f4 := pw_cell_below HG.out Hf4.out; have f5 := pw_cell_below HG.out Hf5.out; have g0 := pw_cell_below HG.out Hg0.out; have g1 := pw_cell_below HG.out Hg1.out; have g2 := pw_cell_below HG.out Hg2.out; have g3 := pw_cell_below HG.out Hg3.out; have g4 := pw_cell_below HG.out Hg4.out; have g5 := pw_cell_below HG.out Hg5.out)) | ((with_reducible refine gate_st (y := .tmp 25) rfl ?_); (refine ev_store rfl rfl 76 (.tmp 9) (.tmp 25) rfl g9 0 rfl 76 _ _ BX9.out rfl (by kernel_rfl) (Nat.le_of_ble_eq_true rfl) rfl ?_; intro w9s_ hx hk; have n2_ := Aside0.mk ((hk.keep g8 NE.out).trans BX8.out); clear BX8; have BX8 := n2_; clear n2_; have n0_ : Aside0 (w9s_.heap[g9]? = some (.cells #[.int .i64 y.f0, .string y.f1.f0, .slice B2 y.f1.f1.length d2, .int .i64 y.f1.f2, .bool y.f1.f3, .bool y.f2] 76 (0, 0))) := ⟨hx⟩; have n1_ := Aside0.mk (hk.below HG.out GE9.out); clear BX9 HG hx hk; have BX9 := n0_; have HG := n1_; clear n0_ n1_; clear f0 f1 f2 f3 f4 f5 g0 g1 g2 g3 g4 g5; have f0 := pw_cell_below HG.out Hf0.out; have f1 := pw_cell_below HG.out Hf1.out; have f2 := pw_cell_below HG.out Hf2.out; have f3 := pw_cell_below HG.out Hf3.out; have f4 := pw_cell_below HG.out Hf4.out; have f5 := pw_cell_below HG.out Hf5.out; have g0 := pw_cell_below HG.out Hg0.out; have g1 := pw_cell_below HG.out Hg1.out; have g2 := pw_cell_below HG.out Hg2.out; have g3 := pw_cell_below HG.out Hg3.out; have g4 := pw_cell_below HG.out Hg4.out; have g5 := pw_cell_below HG.out Hg5.out)) | ((with_reducible refine gate_dst (N := 27) rfl ?_); (refine ev_load rfl 76 (.tmp 8) rfl g8 0 6 rfl 76 (0, 0) _ BX8.out _ hu rfl ([.int .i64 x.f0, .string x.f1.f0, .slice A2 x.f1.f1.length c2, .int .i64 x.f1.f2, .bool x.f1.f3, .bool x.f2]) rfl (by kernel_rfl) ?_)) | ((with_reducible refine gate_dst (N := 28) rfl ?_); (refine ev_load rfl 76 (.tmp 9) rfl g9 0 6 rfl 76 (0, 0) _ BX9.out _ hu rfl ([.int .i64 y.f0, .string y.f1.f0, .slice B2 y.f1.f1.length d2, .int .i64 y.f1.f2, .bool y.f1.f3, .bool y.f2]) rfl (by kernel_rfl) ?_)))
          refine (sameFlight_calls x y A2 c2 B2 d2 _ (Kd.C_below GA2.out (below_step HB.out HG.out)) LA2.out (Kd.C_below GB2.out (below_step HB.out HG.out)) LB2.out).mono ?_; rintro e w3 ⟨rfl, hb⟩; rw [HQB.out]; have n0_ := Aside0.mk (below_step (below_step HB.out HG.out) hb); clear HB HG hb; have HB := n0_; clear n0_
          go_wp2
          go_ret
          exact ⟨by rw [HE.out]; rfl, HB.out⟩
        | true =>
          have HE : Aside0 (eqL eF (l0.drop (k + 1)) (l1.drop (k + 1)) = eqL eF l0 l1) := ⟨by rw [← HQ.out, HS.out, hq]; rfl⟩
          have HQB := Aside0.mk hq; clear hq HQ HS
          have hu := Try.underlying76
          have Hf0 := Aside0.mk f0
          have Hf1 := Aside0.mk f1
          have Hf2 := Aside0.mk f2
          have Hf3 := Aside0.mk f3
          have Hf4 := Aside0.mk f4
          have Hf5 := Aside0.mk f5
          have Hg0 := Aside0.mk g0
          have Hg1 := Aside0.mk g1
          have Hg2 := Aside0.mk g2
          have Hg3 := Aside0.mk g3
          have Hg4 := Aside0.mk g4
          have Hg5 := Aside0.mk g5
          have HG := Aside0.mk (Below.refl wo.heap.size wo)
          go_wp2_with (first | ((with_reducible refine gate_dst (N := 8) rfl ?_); (refine box_event ?hg (N := 8) ?hd (cs := #[.int .i64 0, .string ⟨#[]⟩, .slice none 0 0, .int .i64 0, .bool false, .bool false]) (t := 76) ?hr ?_; (case hd => rfl); (case hg => rfl); (case hr => first | (go_simp; done) | (go_simp; rfl)); intro g8 hg w8_ hbox hb; have GE8 := Aside0.mk (show wo.heap.size ≤ g8 by rw [hg]; exact HG.out.size); have BX8 := Aside0.mk hbox; have n0_ := Aside0.mk (below_step HG.out hb); clear HG hg hbox hb; have HG := n0_; clear n0_; clear f0 f1 f2 f3 f4 f5 g0 g1 g2 g3 g4 g5; have f0 := pw_cell_below HG.out Hf0.out; have f1 := pw_cell_below HG.out Hf1.out; have f2 := pw_cell_below HG.out Hf2.out; have f3 := pw_cell_below HG.out Hf3.out; have f4 := pw_cell_below HG.out Hf4.out; have f5 := pw_cell_below HG.out Hf5.out; have g0 := pw_cell_below HG.out Hg0.out; have g1 := pw_cell_below HG.out Hg1.out; have g2 := pw_cell_below HG.out Hg2.out; have g3 := pw_cell_below HG.out Hg3.out; have g4 := pw_cell_below HG.out Hg4.out; have g5 := pw_cell_below HG.out Hg5.out)) | ((with_reducible refine gate_st (y := .tmp 21) rfl ?_); (refine ev_store rfl rfl 76 (.tmp 8) (.tmp 21) rfl g8 0 rfl 76 _ _ BX8.out rfl (by kernel_rfl) (Nat.le_of_ble_eq_true rfl) rfl ?_; intro w8s_ hx hk; have n0_ : Aside0 (w8s_.heap[g8]? = some (.cells #[.int .i64 x.f0, .string x.f1.f0, .slice A2 x.f1.f1.length c2, .int .i64 x.f1.f2, .bool x.f1.f3, .bool x.f2] 76 (0, 0))) := ⟨hx⟩; have n1_ := Aside0.mk (hk.below HG.out GE8.out); clear BX8 HG hx hk; have BX8 := n0_; have HG := n1_; clear n0_ n1_; clear f0 f1 f2 f3 f4 f5 g0 g1 g2 g3 g4 g5; have f0 := pw_cell_below HG.out Hf0.out; have f1 := pw_cell_below HG.out Hf1.out; have f2 := pw_cell_below HG.out Hf2.out; have f3 := pw_cell_below HG.out Hf3.out; have f4 := pw_cell_below HG.out Hf4.out; have f5 := pw_cell_below HG.out Hf5.out; have g0 := pw_cell_below HG.out Hg0.out; have g1 := pw_cell_below HG.out Hg1.out; have g2 := pw_cell_below HG.out Hg2.out; have g3 := pw_cell_below HG.out Hg3.out; have g4 := pw_cell_below HG.out Hg4.out; have g5 := pw_cell_below HG.out Hg5.out)) | ((with_reducible refine gate_dst (N := 9) rfl ?_); (refine box_event ?hg (N := 9) ?hd (cs := #[.int .i64 0, .string ⟨#[]⟩, .slice none 0 0, .int .i64 0, .bool false, .bool false]) (t := 76) ?hr ?_; (case hd => rfl); (case hg => rfl); (case hr => first | (go_simp; done) | (go_simp; rfl)); intro g9 hg w9_ hbox hb; have GE9 := Aside0.mk (show wo.heap.size ≤ g9 by rw [hg]; exact HG.out.size); have NE := Aside0.mk (show g8 ≠ g9 by rw [hg]; exact Nat.ne_of_lt (blk_lt BX8.out)); have n1_ := Aside0.mk (blk_below BX8.out hb); clear BX8; have BX8 := n1_; clear n1_; have BX9 := Aside0.mk hbox; have n0_ := Aside0.mk (below_step HG.out hb); clear HG hg hbox hb; have HG := n0_; clear n0_; clear f0 f1 f2 f3 f4 f5 g0 g1 g2 g3 g4 g5; have f0 := pw_cell_below HG.out Hf0.out; have f1 := pw_cell_below HG.out Hf1.out; have f2 := pw_cell_below HG.out Hf2.out; have f3 := pw_cell_below HG.out Hf3.out; have f4 := pw_cell_below HG.out Hf4.out; have f5 := pw_cell_below HG.out Hf5.out; have g0 := pw_cell_below HG.out Hg0.out; have g1 := pw_cell_below HG.out Hg1.out; have g2 := pw_cell_below HG.out Hg2.out; have g3 := pw_cell_below HG.out Hg3.out; have g4 := pw_cell_below HG.out Hg4.out; have g5 := pw_cell_below HG.out Hg5.out)) | ((with_reducible refine gate_st (y := .tmp 25) rfl ?_); (refine ev_store rfl rfl 76 (.tmp 9) (.tmp 25) rfl g9 0 rfl 76 _ _ BX9.out rfl (by kernel_rfl) (Nat.le_of_ble_eq_true rfl) rfl ?_; intro w9s_ hx hk; have n2_ := Aside0.mk ((hk.keep g8 NE.out).trans BX8.out); clear BX8; have BX8 := n2_; clear n2_; have n0_ : Aside0 (w9s_.heap[g9]? = some (.cells #[.int .i64 y.f0, .string y.f1.f0, .slice B2 y.f1.f1.length d2, .int .i64 y.f1.f2, .bool y.f1.f3, .bool y.f2] 76 (0, 0))) := ⟨hx⟩; have n1_ := Aside0.mk (hk.below HG.out GE9.out); clear BX9 HG hx hk; have BX9 := n0_; have HG := n1_; clear n0_ n1_; clear f0 f1 f2 f3 f4 f5 g0 g1 g2 g3 g4 g5; have f0 := pw_cell_below HG.out Hf0.out; have f1 := pw_cell_below HG.out Hf1.out; have f2 := pw_cell_below HG.out Hf2.out; have f3 := pw_cell_below HG.out Hf3.out; have f4 := pw_cell_below HG.out Hf4.out; have f5 := pw_cell_below HG.out Hf5.out; have g0 := pw_cell_below HG.out Hg0.out; have g1 := pw_cell_below HG.out Hg1.out; have g2 := pw_cell_below HG.out Hg2.out; have g3 := pw_cell_below HG.out Hg3.out; have g4 := pw_cell_below HG.out Hg4.out; have g5 := pw_cell_below HG.out Hg5.out)) | ((with_reducible refine gate_dst (N := 27) rfl ?_); (refine ev_load rfl 76 (.tmp 8) rfl g8 0 6 rfl 76 (0, 0) _ BX8.out _ hu rfl ([.int .i64 x.f0, .string x.f1.f0, .slice A2 x.f1.f1.length c2, .int .i64 x.f1.f2, .bool x.f1.f3, .bool x.f2]) rfl (by kernel_rfl) ?_)) | ((with_reducible refine gate_dst (N := 28) rfl ?_); (refine ev_load rfl 76 (.tmp 9) rfl g9 0 6 rfl 76 (0, 0) _ BX9.out _ hu rfl ([.int .i64 y.f0, .string y.f1.f0, .slice B2 y.f1.f1.length d2, .int .i64 y.f1.f2, .bool y.f1.f3, .bool y.f2]) rfl (by kernel_rfl) ?_)))
          refine (sameFlight_calls x y A2 c2 B2 d2 _ (Kd.C_below GA2.out (below_step HB.out HG.out)) LA2.out (Kd.C_below GB2.out (below_step HB.out HG.out)) LB2.out).mono ?_; rintro e w3 ⟨rfl, hb⟩; rw [HQB.out]; have n0_ := Aside0.mk (below_step (below_step HB.out HG.out) hb); clear HB HG hb; have HB := n0_; clear n0_
          go_wp2
          go_roundw
          case rel => exact ⟨k + 1, by omega, by go_num, HE, HB⟩
          case measure => simp [intOf]; omega
      · obtain rfl : k = l0.length := by omega
        have HE : Aside0 (eqL eF l0 l1 = true) := ⟨by rw [← HQ.out]; exact eqL_end HLEN.out⟩
        clear HQ
        go_wp2
        go_ret
        exact ⟨by rw [HE.out]; rfl, HB.out⟩
  · have HE : Aside0 (eqL eF l0 l1 = false) := ⟨eqL_ne hlen⟩
    have b0 : ((l0.length : Int) == (l1.length : Int)) = false := by simp; omega
    have b1 : ((l0.length : Int) != (l1.length : Int)) = true := by simp; omega
    have b2 : (l0.length == l1.length) = false := by simp; omega
    clear hlen
    go_enter Try.func52, Try.ntmps52
    go_wp2
    go_ret
    exact ⟨by rw [HE.out]; rfl, HB.out⟩
theorem sameSession_calls (x y : S64) (A1 : Option Addr) (c1 : Nat) (B1 : Option Addr) (d1 : Nat) (A3 : Option Addr) (c3 : Nat) (B3 : Option Addr) (d3 : Nat) (A4 : Option Addr) (c4 : Nat) (B4 : Option Addr) (d4 : Nat) (A5 : Option Addr) (c5 : Nat) (B5 : Option Addr) (d5 : Nat) (w : World) (hr1 : Kd.C k90 w A1 x.f1.length x.f1) (hc1 : x.f1.length ≤ c1) (hs1 : Kd.C k90 w B1 y.f1.length y.f1) (hd1 : y.f1.length ≤ d1) (hr3 : Kd.C k76 w A3 x.f2.f1.length x.f2.f1) (hc3 : x.f2.f1.length ≤ c3) (hs3 : Kd.C k76 w B3 y.f2.f1.length y.f2.f1) (hd3 : y.f2.f1.length ≤ d3) (hr4 : Kd.C k72 w A4 x.f2.f2.length x.f2.f2) (hc4 : x.f2.f2.length ≤ c4) (hs4 : Kd.C k72 w B4 y.f2.f2.length y.f2.f2) (hd4 : y.f2.f2.length ≤ d4) (hr5 : Kd.C (Kd.int .i64) w A5 x.f3.length x.f3) (hc5 : x.f3.length ≤ c5) (hs5 : Kd.C (Kd.int .i64) w B5 y.f3.length y.f3) (hd5 : y.f3.length ≤ d5) :
    Calls Try.prog 19 #[.agg #[.string x.f0, .slice A1 x.f1.length c1, .int .i64 x.f2.f0, .slice A3 x.f2.f1.length c3, .slice A4 x.f2.f2.length c4, .slice A5 x.f3.length c5], .agg #[.string y.f0, .slice B1 y.f1.length d1, .int .i64 y.f2.f0, .slice B3 y.f2.f1.length d3, .slice B4 y.f2.f2.length d4, .slice B5 y.f3.length d5]] w fun e w' => e = .returned (.bool (eS x y)) ∧ Below w.heap.size w w' := by
  have HR1 := Aside0.mk hr1; have HC1 := Aside0.mk hc1; have HS1 := Aside0.mk hs1; have HD1 := Aside0.mk hd1
  have HR3 := Aside0.mk hr3; have HC3 := Aside0.mk hc3; have HS3 := Aside0.mk hs3; have HD3 := Aside0.mk hd3
  have HR4 := Aside0.mk hr4; have HC4 := Aside0.mk hc4; have HS4 := Aside0.mk hs4; have HD4 := Aside0.mk hd4
  have HR5 := Aside0.mk hr5; have HC5 := Aside0.mk hc5; have HS5 := Aside0.mk hs5; have HD5 := Aside0.mk hd5
  have HB := Aside0.mk (Below.refl w.heap.size w)
  clear hr1 hc1 hs1 hd1 hr3 hc3 hs3 hd3 hr4 hc4 hs4 hd4 hr5 hc5 hs5 hd5
  cases t0 : (x.f0.toList == y.f0.toList) with
  | false =>
    have HE : Aside0 ((eS x y) = false) := ⟨by unfold eS; rw [t0]; rfl⟩
    have f0_0 : (x.f0.toList != y.f0.toList) = true := by simp only [bne, t0]; rfl
    go_enter Try.func19, Try.ntmps19
    go_wp2_with (first | ((with_reducible refine gate_dst (N := 2) rfl ?_); refine box_event ?hg (N := 2) ?hd (cs := #[.string x.f0, .slice A1 x.f1.length c1, .int .i64 x.f2.f0, .slice A3 x.f2.f1.length c3, .slice A4 x.f2.f2.length c4, .slice A5 x.f3.length c5]) (t := 64) ?hr ?_; (case hd => rfl); (case hg => rfl); (case hr => first | (go_simp; done) | (go_simp; rfl)); intro g0 hgg0 w3 hbox hb; clear hgg0; have BX0 := Aside0.mk hbox; have n0_ := Aside0.mk (below_step HB.out hb); clear HB hbox hb; have HB := n0_; clear n0_) | ((with_reducible refine gate_dst (N := 3) rfl ?_); refine box_event ?hg (N := 3) ?hd (cs := #[.string y.f0, .slice B1 y.f1.length d1, .int .i64 y.f2.f0, .slice B3 y.f2.f1.length d3, .slice B4 y.f2.f2.length d4, .slice B5 y.f3.length d5]) (t := 64) ?hr ?_; (case hd => rfl); (case hg => rfl); (case hr => first | (go_simp; done) | (go_simp; rfl)); intro g1 hgg1 w4 hbox hb; clear hgg1; have BX1 := Aside0.mk hbox; have n0_ := Aside0.mk (below_step HB.out hb); have n1_ := Aside0.mk (blk_below BX0.out hb); clear HB BX0 hbox hb; have HB := n0_; have BX0 := n1_; clear n0_ n1_; have p0 : w4.cell? ⟨g0, 0, none⟩ = _ := (blk_cell BX0.out 0).trans rfl; have q0 : w4.cell? ⟨g1, 0, none⟩ = _ := (blk_cell BX1.out 0).trans rfl; have p1 : w4.cell? ⟨g0, 1, none⟩ = _ := (blk_cell BX0.out 1).trans rfl; have q1 : w4.cell? ⟨g1, 1, none⟩ = _ := (blk_cell BX1.out 1).trans rfl; have p2 : w4.cell? ⟨g0, 2, none⟩ = _ := (blk_cell BX0.out 2).trans rfl; have q2 : w4.cell? ⟨g1, 2, none⟩ = _ := (blk_cell BX1.out 2).trans rfl; have p3 : w4.cell? ⟨g0, 3, none⟩ = _ := (blk_cell BX0.out 3).trans rfl; have q3 : w4.cell? ⟨g1, 3, none⟩ = _ := (blk_cell BX1.out 3).trans rfl; have p4 : w4.cell? ⟨g0, 4, none⟩ = _ := (blk_cell BX0.out 4).trans rfl; have q4 : w4.cell? ⟨g1, 4, none⟩ = _ := (blk_cell BX1.out 4).trans rfl; have p5 : w4.cell? ⟨g0, 5, none⟩ = _ := (blk_cell BX0.out 5).trans rfl; have q5 : w4.cell? ⟨g1, 5, none⟩ = _ := (blk_cell BX1.out 5).trans rfl))
    go_ret
    exact ⟨by rw [HE.out]; rfl, (by repeat (with_reducible first | exact HB.out | apply below_alloc | apply pw_below_drewN | (refine Below.setCell ?_ HB.out.size _)))⟩
  | true =>
    cases t1 : (eqL eA x.f1 y.f1) with
    | false =>
      have HE : Aside0 ((eS x y) = false) := ⟨by unfold eS; rw [t0, t1]; rfl⟩
      have f0_0 : (x.f0.toList != y.f0.toList) = false := by simp only [bne, t0]; rfl
      go_enter Try.func19, Try.ntmps19
      go_wp2_with (first | ((with_reducible refine gate_dst (N := 2) rfl ?_); refine box_event ?hg (N := 2) ?hd (cs := #[.string x.f0, .slice A1 x.f1.length c1, .int .i64 x.f2.f0, .slice A3 x.f2.f1.length c3, .slice A4 x.f2.f2.length c4, .slice A5 x.f3.length c5]) (t := 64) ?hr ?_; (case hd => rfl); (case hg => rfl); (case hr => first | (go_simp; done) | (go_simp; rfl)); intro g0 hgg0 w3 hbox hb; clear hgg0; have BX0 := Aside0.mk hbox; have n0_ := Aside0.mk (below_step HB.out hb); clear HB hbox hb; have HB := n0_; clear n0_) | ((with_reducible refine gate_dst (N := 3) rfl ?_); refine box_event ?hg (N := 3) ?hd (cs := #[.string y.f0, .slice B1 y.f1.length d1, .int .i64 y.f2.f0, .slice B3 y.f2.f1.length d3, .slice B4 y.f2.f2.length d4, .slice B5 y.f3.length d5]) (t := 64) ?hr ?_; (case hd => rfl); (case hg => rfl); (case hr => first | (go_simp; done) | (go_simp; rfl)); intro g1 hgg1 w4 hbox hb; clear hgg1; have BX1 := Aside0.mk hbox; have n0_ := Aside0.mk (below_step HB.out hb); have n1_ := Aside0.mk (blk_below BX0.out hb); clear HB BX0 hbox hb; have HB := n0_; have BX0 := n1_; clear n0_ n1_; have p0 : w4.cell? ⟨g0, 0, none⟩ = _ := (blk_cell BX0.out 0).trans rfl; have q0 : w4.cell? ⟨g1, 0, none⟩ = _ := (blk_cell BX1.out 0).trans rfl; have p1 : w4.cell? ⟨g0, 1, none⟩ = _ := (blk_cell BX0.out 1).trans rfl; have q1 : w4.cell? ⟨g1, 1, none⟩ = _ := (blk_cell BX1.out 1).trans rfl; have p2 : w4.cell? ⟨g0, 2, none⟩ = _ := (blk_cell BX0.out 2).trans rfl; have q2 : w4.cell? ⟨g1, 2, none⟩ = _ := (blk_cell BX1.out 2).trans rfl; have p3 : w4.cell? ⟨g0, 3, none⟩ = _ := (blk_cell BX0.out 3).trans rfl; have q3 : w4.cell? ⟨g1, 3, none⟩ = _ := (blk_cell BX1.out 3).trans rfl; have p4 : w4.cell? ⟨g0, 4, none⟩ = _ := (blk_cell BX0.out 4).trans rfl; have q4 : w4.cell? ⟨g1, 4, none⟩ = _ := (blk_cell BX1.out 4).trans rfl; have p5 : w4.cell? ⟨g0, 5, none⟩ = _ := (blk_cell BX0.out 5).trans rfl; have q5 : w4.cell? ⟨g1, 5, none⟩ = _ := (blk_cell BX1.out 5).trans rfl) | (go_at_call 51; ((with_reducible refine (eqA_calls _ _ _ _ _ _ _ (Kd.C_below HR1.out HB.out) HC1.out (Kd.C_below HS1.out HB.out) HD1.out).mono ?_); rintro e w5 ⟨rfl, hb⟩; have n0_ := Aside0.mk (below_step HB.out hb); have n1_ := Aside0.mk (blk_below BX0.out hb); have n2_ := Aside0.mk (blk_below BX1.out hb); clear HB BX0 BX1 p0 q0 p1 q1 p2 q2 p3 q3 p4 q4 p5 q5; have HB := n0_; have BX0 := n1_; have BX1 := n2_; clear n0_ n1_ n2_ hb; have p0 : w5.cell? ⟨g0, 0, none⟩ = _ := (blk_cell BX0.out 0).trans rfl; have q0 : w5.cell? ⟨g1, 0, none⟩ = _ := (blk_cell BX1.out 0).trans rfl; have p1 : w5.cell? ⟨g0, 1, none⟩ = _ := (blk_cell BX0.out 1).trans rfl; have q1 : w5.cell? ⟨g1, 1, none⟩ = _ := (blk_cell BX1.out 1).trans rfl; have p2 : w5.cell? ⟨g0, 2, none⟩ = _ := (blk_cell BX0.out 2).trans rfl; have q2 : w5.cell? ⟨g1, 2, none⟩ = _ := (blk_cell BX1.out 2).trans rfl; have p3 : w5.cell? ⟨g0, 3, none⟩ = _ := (blk_cell BX0.out 3).trans rfl; have q3 : w5.cell? ⟨g1, 3, none⟩ = _ := (blk_cell BX1.out 3).trans rfl; have p4 : w5.cell? ⟨g0, 4, none⟩ = _ := (blk_cell BX0.out 4).trans rfl; have q4 : w5.cell? ⟨g1, 4, none⟩ = _ := (blk_cell BX1.out 4).trans rfl; have p5 : w5.cell? ⟨g0, 5, none⟩ = _ := (blk_cell BX0.out 5).trans rfl; have q5 : w5.cell? ⟨g1, 5, none⟩ = _ := (blk_cell BX1.out 5).trans rfl)))
      go_ret
      exact ⟨by rw [HE.out]; rfl, (by repeat (with_reducible first | exact HB.out | apply below_alloc | apply pw_below_drewN | (refine Below.setCell ?_ HB.out.size _)))⟩
    | true =>
      cases t2 : (x.f2.f0 == y.f2.f0) with
      | false =>
        have HE : Aside0 ((eS x y) = false) := ⟨by unfold eS; rw [t0, t1, t2]; rfl⟩
        have f0_0 : (x.f0.toList != y.f0.toList) = false := by simp only [bne, t0]; rfl
        have f2_0 : (x.f2.f0 != y.f2.f0) = true := by simp only [bne, t2]; rfl
        go_enter Try.func19, Try.ntmps19
        go_wp2_with (first | ((with_reducible refine gate_dst (N := 2) rfl ?_); refine box_event ?hg (N := 2) ?hd (cs := #[.string x.f0, .slice A1 x.f1.length c1, .int .i64 x.f2.f0, .slice A3 x.f2.f1.length c3, .slice A4 x.f2.f2.length c4, .slice A5 x.f3.length c5]) (t := 64) ?hr ?_; (case hd => rfl); (case hg => rfl); (case hr => first | (go_simp; done) | (go_simp; rfl)); intro g0 hgg0 w3 hbox hb; clear hgg0; have BX0 := Aside0.mk hbox; have n0_ := Aside0.mk (below_step HB.out hb); clear HB hbox hb; have HB := n0_; clear n0_) | ((with_reducible refine gate_dst (N := 3) rfl ?_); refine box_event ?hg (N := 3) ?hd (cs := #[.string y.f0, .slice B1 y.f1.length d1, .int .i64 y.f2.f0, .slice B3 y.f2.f1.length d3, .slice B4 y.f2.f2.length d4, .slice B5 y.f3.length d5]) (t := 64) ?hr ?_; (case hd => rfl); (case hg => rfl); (case hr => first | (go_simp; done) | (go_simp; rfl)); intro g1 hgg1 w4 hbox hb; clear hgg1; have BX1 := Aside0.mk hbox; have n0_ := Aside0.mk (below_step HB.out hb); have n1_ := Aside0.mk (blk_below BX0.out hb); clear HB BX0 hbox hb; have HB := n0_; have BX0 := n1_; clear n0_ n1_; have p0 : w4.cell? ⟨g0, 0, none⟩ = _ := (blk_cell BX0.out 0).trans rfl; have q0 : w4.cell? ⟨g1, 0, none⟩ = _ := (blk_cell BX1.out 0).trans rfl; have p1 : w4.cell? ⟨g0, 1, none⟩ = _ := (blk_cell BX0.out 1).trans rfl; have q1 : w4.cell? ⟨g1, 1, none⟩ = _ := (blk_cell BX1.out 1).trans rfl; have p2 : w4.cell? ⟨g0, 2, none⟩ = _ := (blk_cell BX0.out 2).trans rfl; have q2 : w4.cell? ⟨g1, 2, none⟩ = _ := (blk_cell BX1.out 2).trans rfl; have p3 : w4.cell? ⟨g0, 3, none⟩ = _ := (blk_cell BX0.out 3).trans rfl; have q3 : w4.cell? ⟨g1, 3, none⟩ = _ := (blk_cell BX1.out 3).trans rfl; have p4 : w4.cell? ⟨g0, 4, none⟩ = _ := (blk_cell BX0.out 4).trans rfl; have q4 : w4.cell? ⟨g1, 4, none⟩ = _ := (blk_cell BX1.out 4).trans rfl; have p5 : w4.cell? ⟨g0, 5, none⟩ = _ := (blk_cell BX0.out 5).trans rfl; have q5 : w4.cell? ⟨g1, 5, none⟩ = _ := (blk_cell BX1.out 5).trans rfl) | (go_at_call 51; ((with_reducible refine (eqA_calls _ _ _ _ _ _ _ (Kd.C_below HR1.out HB.out) HC1.out (Kd.C_below HS1.out HB.out) HD1.out).mono ?_); rintro e w5 ⟨rfl, hb⟩; have n0_ := Aside0.mk (below_step HB.out hb); have n1_ := Aside0.mk (blk_below BX0.out hb); have n2_ := Aside0.mk (blk_below BX1.out hb); clear HB BX0 BX1 p0 q0 p1 q1 p2 q2 p3 q3 p4 q4 p5 q5; have HB := n0_; have BX0 := n1_; have BX1 := n2_; clear n0_ n1_ n2_ hb; have p0 : w5.cell? ⟨g0, 0, none⟩ = _ := (blk_cell BX0.out 0).trans rfl; have q0 : w5.cell? ⟨g1, 0, none⟩ = _ := (blk_cell BX1.out 0).trans rfl; have p1 : w5.cell? ⟨g0, 1, none⟩ = _ := (blk_cell BX0.out 1).trans rfl; have q1 : w5.cell? ⟨g1, 1, none⟩ = _ := (blk_cell BX1.out 1).trans rfl; have p2 : w5.cell? ⟨g0, 2, none⟩ = _ := (blk_cell BX0.out 2).trans rfl; have q2 : w5.cell? ⟨g1, 2, none⟩ = _ := (blk_cell BX1.out 2).trans rfl; have p3 : w5.cell? ⟨g0, 3, none⟩ = _ := (blk_cell BX0.out 3).trans rfl; have q3 : w5.cell? ⟨g1, 3, none⟩ = _ := (blk_cell BX1.out 3).trans rfl; have p4 : w5.cell? ⟨g0, 4, none⟩ = _ := (blk_cell BX0.out 4).trans rfl; have q4 : w5.cell? ⟨g1, 4, none⟩ = _ := (blk_cell BX1.out 4).trans rfl; have p5 : w5.cell? ⟨g0, 5, none⟩ = _ := (blk_cell BX0.out 5).trans rfl; have q5 : w5.cell? ⟨g1, 5, none⟩ = _ := (blk_cell BX1.out 5).trans rfl)))
        go_ret
        exact ⟨by rw [HE.out]; rfl, (by repeat (with_reducible first | exact HB.out | apply below_alloc | apply pw_below_drewN | (refine Below.setCell ?_ HB.out.size _)))⟩
      | true =>
        cases t3 : (eqL eF x.f2.f1 y.f2.f1) with
        | false =>
          have HE : Aside0 ((eS x y) = false) := ⟨by unfold eS; rw [t0, t1, t2, t3]; rfl⟩
          have f0_0 : (x.f0.toList != y.f0.toList) = false := by simp only [bne, t0]; rfl
          have f2_0 : (x.f2.f0 != y.f2.f0) = false := by simp only [bne, t2]; rfl
          go_enter Try.func19, Try.ntmps19
          go_wp2_with (first | ((with_reducible refine gate_dst (N := 2) rfl ?_); refine box_event ?hg (N := 2) ?hd (cs := #[.string x.f0, .slice A1 x.f1.length c1, .int .i64 x.f2.f0, .slice A3 x.f2.f1.length c3, .slice A4 x.f2.f2.length c4, .slice A5 x.f3.length c5]) (t := 64) ?hr ?_; (case hd => rfl); (case hg => rfl); (case hr => first | (go_simp; done) | (go_simp; rfl)); intro g0 hgg0 w3 hbox hb; clear hgg0; have BX0 := Aside0.mk hbox; have n0_ := Aside0.mk (below_step HB.out hb); clear HB hbox hb; have HB := n0_; clear n0_) | ((with_reducible refine gate_dst (N := 3) rfl ?_); refine box_event ?hg (N := 3) ?hd (cs := #[.string y.f0, .slice B1 y.f1.length d1, .int .i64 y.f2.f0, .slice B3 y.f2.f1.length d3, .slice B4 y.f2.f2.length d4, .slice B5 y.f3.length d5]) (t := 64) ?hr ?_; (case hd => rfl); (case hg => rfl); (case hr => first | (go_simp; done) | (go_simp; rfl)); intro g1 hgg1 w4 hbox hb; clear hgg1; have BX1 := Aside0.mk hbox; have n0_ := Aside0.mk (below_step HB.out hb); have n1_ := Aside0.mk (blk_below BX0.out hb); clear HB BX0 hbox hb; have HB := n0_; have BX0 := n1_; clear n0_ n1_; have p0 : w4.cell? ⟨g0, 0, none⟩ = _ := (blk_cell BX0.out 0).trans rfl; have q0 : w4.cell? ⟨g1, 0, none⟩ = _ := (blk_cell BX1.out 0).trans rfl; have p1 : w4.cell? ⟨g0, 1, none⟩ = _ := (blk_cell BX0.out 1).trans rfl; have q1 : w4.cell? ⟨g1, 1, none⟩ = _ := (blk_cell BX1.out 1).trans rfl; have p2 : w4.cell? ⟨g0, 2, none⟩ = _ := (blk_cell BX0.out 2).trans rfl; have q2 : w4.cell? ⟨g1, 2, none⟩ = _ := (blk_cell BX1.out 2).trans rfl; have p3 : w4.cell? ⟨g0, 3, none⟩ = _ := (blk_cell BX0.out 3).trans rfl; have q3 : w4.cell? ⟨g1, 3, none⟩ = _ := (blk_cell BX1.out 3).trans rfl; have p4 : w4.cell? ⟨g0, 4, none⟩ = _ := (blk_cell BX0.out 4).trans rfl; have q4 : w4.cell? ⟨g1, 4, none⟩ = _ := (blk_cell BX1.out 4).trans rfl; have p5 : w4.cell? ⟨g0, 5, none⟩ = _ := (blk_cell BX0.out 5).trans rfl; have q5 : w4.cell? ⟨g1, 5, none⟩ = _ := (blk_cell BX1.out 5).trans rfl) | (go_at_call 51; ((with_reducible refine (eqA_calls _ _ _ _ _ _ _ (Kd.C_below HR1.out HB.out) HC1.out (Kd.C_below HS1.out HB.out) HD1.out).mono ?_); rintro e w5 ⟨rfl, hb⟩; have n0_ := Aside0.mk (below_step HB.out hb); have n1_ := Aside0.mk (blk_below BX0.out hb); have n2_ := Aside0.mk (blk_below BX1.out hb); clear HB BX0 BX1 p0 q0 p1 q1 p2 q2 p3 q3 p4 q4 p5 q5; have HB := n0_; have BX0 := n1_; have BX1 := n2_; clear n0_ n1_ n2_ hb; have p0 : w5.cell? ⟨g0, 0, none⟩ = _ := (blk_cell BX0.out 0).trans rfl; have q0 : w5.cell? ⟨g1, 0, none⟩ = _ := (blk_cell BX1.out 0).trans rfl; have p1 : w5.cell? ⟨g0, 1, none⟩ = _ := (blk_cell BX0.out 1).trans rfl; have q1 : w5.cell? ⟨g1, 1, none⟩ = _ := (blk_cell BX1.out 1).trans rfl; have p2 : w5.cell? ⟨g0, 2, none⟩ = _ := (blk_cell BX0.out 2).trans rfl; have q2 : w5.cell? ⟨g1, 2, none⟩ = _ := (blk_cell BX1.out 2).trans rfl; have p3 : w5.cell? ⟨g0, 3, none⟩ = _ := (blk_cell BX0.out 3).trans rfl; have q3 : w5.cell? ⟨g1, 3, none⟩ = _ := (blk_cell BX1.out 3).trans rfl; have p4 : w5.cell? ⟨g0, 4, none⟩ = _ := (blk_cell BX0.out 4).trans rfl; have q4 : w5.cell? ⟨g1, 4, none⟩ = _ := (blk_cell BX1.out 4).trans rfl; have p5 : w5.cell? ⟨g0, 5, none⟩ = _ := (blk_cell BX0.out 5).trans rfl; have q5 : w5.cell? ⟨g1, 5, none⟩ = _ := (blk_cell BX1.out 5).trans rfl)) | (go_at_call 52; ((with_reducible refine (EFF_calls _ _ _ _ _ _ _ (Kd.C_below HR3.out HB.out) HC3.out (Kd.C_below HS3.out HB.out) HD3.out).mono ?_); rintro e w5 ⟨rfl, hb⟩; have n0_ := Aside0.mk (below_step HB.out hb); have n1_ := Aside0.mk (blk_below BX0.out hb); have n2_ := Aside0.mk (blk_below BX1.out hb); clear HB BX0 BX1 p0 q0 p1 q1 p2 q2 p3 q3 p4 q4 p5 q5; have HB := n0_; have BX0 := n1_; have BX1 := n2_; clear n0_ n1_ n2_ hb; have p0 : w5.cell? ⟨g0, 0, none⟩ = _ := (blk_cell BX0.out 0).trans rfl; have q0 : w5.cell? ⟨g1, 0, none⟩ = _ := (blk_cell BX1.out 0).trans rfl; have p1 : w5.cell? ⟨g0, 1, none⟩ = _ := (blk_cell BX0.out 1).trans rfl; have q1 : w5.cell? ⟨g1, 1, none⟩ = _ := (blk_cell BX1.out 1).trans rfl; have p2 : w5.cell? ⟨g0, 2, none⟩ = _ := (blk_cell BX0.out 2).trans rfl; have q2 : w5.cell? ⟨g1, 2, none⟩ = _ := (blk_cell BX1.out 2).trans rfl; have p3 : w5.cell? ⟨g0, 3, none⟩ = _ := (blk_cell BX0.out 3).trans rfl; have q3 : w5.cell? ⟨g1, 3, none⟩ = _ := (blk_cell BX1.out 3).trans rfl; have p4 : w5.cell? ⟨g0, 4, none⟩ = _ := (blk_cell BX0.out 4).trans rfl; have q4 : w5.cell? ⟨g1, 4, none⟩ = _ := (blk_cell BX1.out 4).trans rfl; have p5 : w5.cell? ⟨g0, 5, none⟩ = _ := (blk_cell BX0.out 5).trans rfl; have q5 : w5.cell? ⟨g1, 5, none⟩ = _ := (blk_cell BX1.out 5).trans rfl)))
          go_ret
          exact ⟨by rw [HE.out]; rfl, (by repeat (with_reducible first | exact HB.out | apply below_alloc | apply pw_below_drewN | (refine Below.setCell ?_ HB.out.size _)))⟩
        | true =>
          cases t4 : (eqL eM x.f2.f2 y.f2.f2) with
          | false =>
            have HE : Aside0 ((eS x y) = false) := ⟨by unfold eS; rw [t0, t1, t2, t3, t4]; rfl⟩
            have f0_0 : (x.f0.toList != y.f0.toList) = false := by simp only [bne, t0]; rfl
            have f2_0 : (x.f2.f0 != y.f2.f0) = false := by simp only [bne, t2]; rfl
            go_enter Try.func19, Try.ntmps19
            go_wp2_with (first | ((with_reducible refine gate_dst (N := 2) rfl ?_); refine box_event ?hg (N := 2) ?hd (cs := #[.string x.f0, .slice A1 x.f1.length c1, .int .i64 x.f2.f0, .slice A3 x.f2.f1.length c3, .slice A4 x.f2.f2.length c4, .slice A5 x.f3.length c5]) (t := 64) ?hr ?_; (case hd => rfl); (case hg => rfl); (case hr => first | (go_simp; done) | (go_simp; rfl)); intro g0 hgg0 w3 hbox hb; clear hgg0; have BX0 := Aside0.mk hbox; have n0_ := Aside0.mk (below_step HB.out hb); clear HB hbox hb; have HB := n0_; clear n0_) | ((with_reducible refine gate_dst (N := 3) rfl ?_); refine box_event ?hg (N := 3) ?hd (cs := #[.string y.f0, .slice B1 y.f1.length d1, .int .i64 y.f2.f0, .slice B3 y.f2.f1.length d3, .slice B4 y.f2.f2.length d4, .slice B5 y.f3.length d5]) (t := 64) ?hr ?_; (case hd => rfl); (case hg => rfl); (case hr => first | (go_simp; done) | (go_simp; rfl)); intro g1 hgg1 w4 hbox hb; clear hgg1; have BX1 := Aside0.mk hbox; have n0_ := Aside0.mk (below_step HB.out hb); have n1_ := Aside0.mk (blk_below BX0.out hb); clear HB BX0 hbox hb; have HB := n0_; have BX0 := n1_; clear n0_ n1_; have p0 : w4.cell? ⟨g0, 0, none⟩ = _ := (blk_cell BX0.out 0).trans rfl; have q0 : w4.cell? ⟨g1, 0, none⟩ = _ := (blk_cell BX1.out 0).trans rfl; have p1 : w4.cell? ⟨g0, 1, none⟩ = _ := (blk_cell BX0.out 1).trans rfl; have q1 : w4.cell? ⟨g1, 1, none⟩ = _ := (blk_cell BX1.out 1).trans rfl; have p2 : w4.cell? ⟨g0, 2, none⟩ = _ := (blk_cell BX0.out 2).trans rfl; have q2 : w4.cell? ⟨g1, 2, none⟩ = _ := (blk_cell BX1.out 2).trans rfl; have p3 : w4.cell? ⟨g0, 3, none⟩ = _ := (blk_cell BX0.out 3).trans rfl; have q3 : w4.cell? ⟨g1, 3, none⟩ = _ := (blk_cell BX1.out 3).trans rfl; have p4 : w4.cell? ⟨g0, 4, none⟩ = _ := (blk_cell BX0.out 4).trans rfl; have q4 : w4.cell? ⟨g1, 4, none⟩ = _ := (blk_cell BX1.out 4).trans rfl; have p5 : w4.cell? ⟨g0, 5, none⟩ = _ := (blk_cell BX0.out 5).trans rfl; have q5 : w4.cell? ⟨g1, 5, none⟩ = _ := (blk_cell BX1.out 5).trans rfl) | (go_at_call 51; ((with_reducible refine (eqA_calls _ _ _ _ _ _ _ (Kd.C_below HR1.out HB.out) HC1.out (Kd.C_below HS1.out HB.out) HD1.out).mono ?_); rintro e w5 ⟨rfl, hb⟩; have n0_ := Aside0.mk (below_step HB.out hb); have n1_ := Aside0.mk (blk_below BX0.out hb); have n2_ := Aside0.mk (blk_below BX1.out hb); clear HB BX0 BX1 p0 q0 p1 q1 p2 q2 p3 q3 p4 q4 p5 q5; have HB := n0_; have BX0 := n1_; have BX1 := n2_; clear n0_ n1_ n2_ hb; have p0 : w5.cell? ⟨g0, 0, none⟩ = _ := (blk_cell BX0.out 0).trans rfl; have q0 : w5.cell? ⟨g1, 0, none⟩ = _ := (blk_cell BX1.out 0).trans rfl; have p1 : w5.cell? ⟨g0, 1, none⟩ = _ := (blk_cell BX0.out 1).trans rfl; have q1 : w5.cell? ⟨g1, 1, none⟩ = _ := (blk_cell BX1.out 1).trans rfl; have p2 : w5.cell? ⟨g0, 2, none⟩ = _ := (blk_cell BX0.out 2).trans rfl; have q2 : w5.cell? ⟨g1, 2, none⟩ = _ := (blk_cell BX1.out 2).trans rfl; have p3 : w5.cell? ⟨g0, 3, none⟩ = _ := (blk_cell BX0.out 3).trans rfl; have q3 : w5.cell? ⟨g1, 3, none⟩ = _ := (blk_cell BX1.out 3).trans rfl; have p4 : w5.cell? ⟨g0, 4, none⟩ = _ := (blk_cell BX0.out 4).trans rfl; have q4 : w5.cell? ⟨g1, 4, none⟩ = _ := (blk_cell BX1.out 4).trans rfl; have p5 : w5.cell? ⟨g0, 5, none⟩ = _ := (blk_cell BX0.out 5).trans rfl; have q5 : w5.cell? ⟨g1, 5, none⟩ = _ := (blk_cell BX1.out 5).trans rfl)) | (go_at_call 52; ((with_reducible refine (EFF_calls _ _ _ _ _ _ _ (Kd.C_below HR3.out HB.out) HC3.out (Kd.C_below HS3.out HB.out) HD3.out).mono ?_); rintro e w5 ⟨rfl, hb⟩; have n0_ := Aside0.mk (below_step HB.out hb); have n1_ := Aside0.mk (blk_below BX0.out hb); have n2_ := Aside0.mk (blk_below BX1.out hb); clear HB BX0 BX1 p0 q0 p1 q1 p2 q2 p3 q3 p4 q4 p5 q5; have HB := n0_; have BX0 := n1_; have BX1 := n2_; clear n0_ n1_ n2_ hb; have p0 : w5.cell? ⟨g0, 0, none⟩ = _ := (blk_cell BX0.out 0).trans rfl; have q0 : w5.cell? ⟨g1, 0, none⟩ = _ := (blk_cell BX1.out 0).trans rfl; have p1 : w5.cell? ⟨g0, 1, none⟩ = _ := (blk_cell BX0.out 1).trans rfl; have q1 : w5.cell? ⟨g1, 1, none⟩ = _ := (blk_cell BX1.out 1).trans rfl; have p2 : w5.cell? ⟨g0, 2, none⟩ = _ := (blk_cell BX0.out 2).trans rfl; have q2 : w5.cell? ⟨g1, 2, none⟩ = _ := (blk_cell BX1.out 2).trans rfl; have p3 : w5.cell? ⟨g0, 3, none⟩ = _ := (blk_cell BX0.out 3).trans rfl; have q3 : w5.cell? ⟨g1, 3, none⟩ = _ := (blk_cell BX1.out 3).trans rfl; have p4 : w5.cell? ⟨g0, 4, none⟩ = _ := (blk_cell BX0.out 4).trans rfl; have q4 : w5.cell? ⟨g1, 4, none⟩ = _ := (blk_cell BX1.out 4).trans rfl; have p5 : w5.cell? ⟨g0, 5, none⟩ = _ := (blk_cell BX0.out 5).trans rfl; have q5 : w5.cell? ⟨g1, 5, none⟩ = _ := (blk_cell BX1.out 5).trans rfl)) | (go_at_call 20; ((with_reducible refine (EFM_calls _ _ _ _ _ _ _ (Kd.C_below HR4.out HB.out) HC4.out (Kd.C_below HS4.out HB.out) HD4.out).mono ?_); rintro e w5 ⟨rfl, hb⟩; have n0_ := Aside0.mk (below_step HB.out hb); have n1_ := Aside0.mk (blk_below BX0.out hb); have n2_ := Aside0.mk (blk_below BX1.out hb); clear HB BX0 BX1 p0 q0 p1 q1 p2 q2 p3 q3 p4 q4 p5 q5; have HB := n0_; have BX0 := n1_; have BX1 := n2_; clear n0_ n1_ n2_ hb; have p0 : w5.cell? ⟨g0, 0, none⟩ = _ := (blk_cell BX0.out 0).trans rfl; have q0 : w5.cell? ⟨g1, 0, none⟩ = _ := (blk_cell BX1.out 0).trans rfl; have p1 : w5.cell? ⟨g0, 1, none⟩ = _ := (blk_cell BX0.out 1).trans rfl; have q1 : w5.cell? ⟨g1, 1, none⟩ = _ := (blk_cell BX1.out 1).trans rfl; have p2 : w5.cell? ⟨g0, 2, none⟩ = _ := (blk_cell BX0.out 2).trans rfl; have q2 : w5.cell? ⟨g1, 2, none⟩ = _ := (blk_cell BX1.out 2).trans rfl; have p3 : w5.cell? ⟨g0, 3, none⟩ = _ := (blk_cell BX0.out 3).trans rfl; have q3 : w5.cell? ⟨g1, 3, none⟩ = _ := (blk_cell BX1.out 3).trans rfl; have p4 : w5.cell? ⟨g0, 4, none⟩ = _ := (blk_cell BX0.out 4).trans rfl; have q4 : w5.cell? ⟨g1, 4, none⟩ = _ := (blk_cell BX1.out 4).trans rfl; have p5 : w5.cell? ⟨g0, 5, none⟩ = _ := (blk_cell BX0.out 5).trans rfl; have q5 : w5.cell? ⟨g1, 5, none⟩ = _ := (blk_cell BX1.out 5).trans rfl)))
            go_ret
            exact ⟨by rw [HE.out]; rfl, (by repeat (with_reducible first | exact HB.out | apply below_alloc | apply pw_below_drewN | (refine Below.setCell ?_ HB.out.size _)))⟩
          | true =>
            cases t5 : (eqL eN x.f3 y.f3) with
            | false =>
              have HE : Aside0 ((eS x y) = false) := ⟨by unfold eS; rw [t0, t1, t2, t3, t4, t5]; rfl⟩
              have f0_0 : (x.f0.toList != y.f0.toList) = false := by simp only [bne, t0]; rfl
              have f2_0 : (x.f2.f0 != y.f2.f0) = false := by simp only [bne, t2]; rfl
              go_enter Try.func19, Try.ntmps19
              go_wp2_with (first | ((with_reducible refine gate_dst (N := 2) rfl ?_); refine box_event ?hg (N := 2) ?hd (cs := #[.string x.f0, .slice A1 x.f1.length c1, .int .i64 x.f2.f0, .slice A3 x.f2.f1.length c3, .slice A4 x.f2.f2.length c4, .slice A5 x.f3.length c5]) (t := 64) ?hr ?_; (case hd => rfl); (case hg => rfl); (case hr => first | (go_simp; done) | (go_simp; rfl)); intro g0 hgg0 w3 hbox hb; clear hgg0; have BX0 := Aside0.mk hbox; have n0_ := Aside0.mk (below_step HB.out hb); clear HB hbox hb; have HB := n0_; clear n0_) | ((with_reducible refine gate_dst (N := 3) rfl ?_); refine box_event ?hg (N := 3) ?hd (cs := #[.string y.f0, .slice B1 y.f1.length d1, .int .i64 y.f2.f0, .slice B3 y.f2.f1.length d3, .slice B4 y.f2.f2.length d4, .slice B5 y.f3.length d5]) (t := 64) ?hr ?_; (case hd => rfl); (case hg => rfl); (case hr => first | (go_simp; done) | (go_simp; rfl)); intro g1 hgg1 w4 hbox hb; clear hgg1; have BX1 := Aside0.mk hbox; have n0_ := Aside0.mk (below_step HB.out hb); have n1_ := Aside0.mk (blk_below BX0.out hb); clear HB BX0 hbox hb; have HB := n0_; have BX0 := n1_; clear n0_ n1_; have p0 : w4.cell? ⟨g0, 0, none⟩ = _ := (blk_cell BX0.out 0).trans rfl; have q0 : w4.cell? ⟨g1, 0, none⟩ = _ := (blk_cell BX1.out 0).trans rfl; have p1 : w4.cell? ⟨g0, 1, none⟩ = _ := (blk_cell BX0.out 1).trans rfl; have q1 : w4.cell? ⟨g1, 1, none⟩ = _ := (blk_cell BX1.out 1).trans rfl; have p2 : w4.cell? ⟨g0, 2, none⟩ = _ := (blk_cell BX0.out 2).trans rfl; have q2 : w4.cell? ⟨g1, 2, none⟩ = _ := (blk_cell BX1.out 2).trans rfl; have p3 : w4.cell? ⟨g0, 3, none⟩ = _ := (blk_cell BX0.out 3).trans rfl; have q3 : w4.cell? ⟨g1, 3, none⟩ = _ := (blk_cell BX1.out 3).trans rfl; have p4 : w4.cell? ⟨g0, 4, none⟩ = _ := (blk_cell BX0.out 4).trans rfl; have q4 : w4.cell? ⟨g1, 4, none⟩ = _ := (blk_cell BX1.out 4).trans rfl; have p5 : w4.cell? ⟨g0, 5, none⟩ = _ := (blk_cell BX0.out 5).trans rfl; have q5 : w4.cell? ⟨g1, 5, none⟩ = _ := (blk_cell BX1.out 5).trans rfl) | (go_at_call 51; ((with_reducible refine (eqA_calls _ _ _ _ _ _ _ (Kd.C_below HR1.out HB.out) HC1.out (Kd.C_below HS1.out HB.out) HD1.out).mono ?_); rintro e w5 ⟨rfl, hb⟩; have n0_ := Aside0.mk (below_step HB.out hb); have n1_ := Aside0.mk (blk_below BX0.out hb); have n2_ := Aside0.mk (blk_below BX1.out hb); clear HB BX0 BX1 p0 q0 p1 q1 p2 q2 p3 q3 p4 q4 p5 q5; have HB := n0_; have BX0 := n1_; have BX1 := n2_; clear n0_ n1_ n2_ hb; have p0 : w5.cell? ⟨g0, 0, none⟩ = _ := (blk_cell BX0.out 0).trans rfl; have q0 : w5.cell? ⟨g1, 0, none⟩ = _ := (blk_cell BX1.out 0).trans rfl; have p1 : w5.cell? ⟨g0, 1, none⟩ = _ := (blk_cell BX0.out 1).trans rfl; have q1 : w5.cell? ⟨g1, 1, none⟩ = _ := (blk_cell BX1.out 1).trans rfl; have p2 : w5.cell? ⟨g0, 2, none⟩ = _ := (blk_cell BX0.out 2).trans rfl; have q2 : w5.cell? ⟨g1, 2, none⟩ = _ := (blk_cell BX1.out 2).trans rfl; have p3 : w5.cell? ⟨g0, 3, none⟩ = _ := (blk_cell BX0.out 3).trans rfl; have q3 : w5.cell? ⟨g1, 3, none⟩ = _ := (blk_cell BX1.out 3).trans rfl; have p4 : w5.cell? ⟨g0, 4, none⟩ = _ := (blk_cell BX0.out 4).trans rfl; have q4 : w5.cell? ⟨g1, 4, none⟩ = _ := (blk_cell BX1.out 4).trans rfl; have p5 : w5.cell? ⟨g0, 5, none⟩ = _ := (blk_cell BX0.out 5).trans rfl; have q5 : w5.cell? ⟨g1, 5, none⟩ = _ := (blk_cell BX1.out 5).trans rfl)) | (go_at_call 52; ((with_reducible refine (EFF_calls _ _ _ _ _ _ _ (Kd.C_below HR3.out HB.out) HC3.out (Kd.C_below HS3.out HB.out) HD3.out).mono ?_); rintro e w5 ⟨rfl, hb⟩; have n0_ := Aside0.mk (below_step HB.out hb); have n1_ := Aside0.mk (blk_below BX0.out hb); have n2_ := Aside0.mk (blk_below BX1.out hb); clear HB BX0 BX1 p0 q0 p1 q1 p2 q2 p3 q3 p4 q4 p5 q5; have HB := n0_; have BX0 := n1_; have BX1 := n2_; clear n0_ n1_ n2_ hb; have p0 : w5.cell? ⟨g0, 0, none⟩ = _ := (blk_cell BX0.out 0).trans rfl; have q0 : w5.cell? ⟨g1, 0, none⟩ = _ := (blk_cell BX1.out 0).trans rfl; have p1 : w5.cell? ⟨g0, 1, none⟩ = _ := (blk_cell BX0.out 1).trans rfl; have q1 : w5.cell? ⟨g1, 1, none⟩ = _ := (blk_cell BX1.out 1).trans rfl; have p2 : w5.cell? ⟨g0, 2, none⟩ = _ := (blk_cell BX0.out 2).trans rfl; have q2 : w5.cell? ⟨g1, 2, none⟩ = _ := (blk_cell BX1.out 2).trans rfl; have p3 : w5.cell? ⟨g0, 3, none⟩ = _ := (blk_cell BX0.out 3).trans rfl; have q3 : w5.cell? ⟨g1, 3, none⟩ = _ := (blk_cell BX1.out 3).trans rfl; have p4 : w5.cell? ⟨g0, 4, none⟩ = _ := (blk_cell BX0.out 4).trans rfl; have q4 : w5.cell? ⟨g1, 4, none⟩ = _ := (blk_cell BX1.out 4).trans rfl; have p5 : w5.cell? ⟨g0, 5, none⟩ = _ := (blk_cell BX0.out 5).trans rfl; have q5 : w5.cell? ⟨g1, 5, none⟩ = _ := (blk_cell BX1.out 5).trans rfl)) | (go_at_call 20; ((with_reducible refine (EFM_calls _ _ _ _ _ _ _ (Kd.C_below HR4.out HB.out) HC4.out (Kd.C_below HS4.out HB.out) HD4.out).mono ?_); rintro e w5 ⟨rfl, hb⟩; have n0_ := Aside0.mk (below_step HB.out hb); have n1_ := Aside0.mk (blk_below BX0.out hb); have n2_ := Aside0.mk (blk_below BX1.out hb); clear HB BX0 BX1 p0 q0 p1 q1 p2 q2 p3 q3 p4 q4 p5 q5; have HB := n0_; have BX0 := n1_; have BX1 := n2_; clear n0_ n1_ n2_ hb; have p0 : w5.cell? ⟨g0, 0, none⟩ = _ := (blk_cell BX0.out 0).trans rfl; have q0 : w5.cell? ⟨g1, 0, none⟩ = _ := (blk_cell BX1.out 0).trans rfl; have p1 : w5.cell? ⟨g0, 1, none⟩ = _ := (blk_cell BX0.out 1).trans rfl; have q1 : w5.cell? ⟨g1, 1, none⟩ = _ := (blk_cell BX1.out 1).trans rfl; have p2 : w5.cell? ⟨g0, 2, none⟩ = _ := (blk_cell BX0.out 2).trans rfl; have q2 : w5.cell? ⟨g1, 2, none⟩ = _ := (blk_cell BX1.out 2).trans rfl; have p3 : w5.cell? ⟨g0, 3, none⟩ = _ := (blk_cell BX0.out 3).trans rfl; have q3 : w5.cell? ⟨g1, 3, none⟩ = _ := (blk_cell BX1.out 3).trans rfl; have p4 : w5.cell? ⟨g0, 4, none⟩ = _ := (blk_cell BX0.out 4).trans rfl; have q4 : w5.cell? ⟨g1, 4, none⟩ = _ := (blk_cell BX1.out 4).trans rfl; have p5 : w5.cell? ⟨g0, 5, none⟩ = _ := (blk_cell BX0.out 5).trans rfl; have q5 : w5.cell? ⟨g1, 5, none⟩ = _ := (blk_cell BX1.out 5).trans rfl)) | (go_at_call 54; ((with_reducible refine (eqN_calls _ _ _ _ _ _ _ (Kd.C_below HR5.out HB.out) HC5.out (Kd.C_below HS5.out HB.out) HD5.out).mono ?_); rintro e w5 ⟨rfl, hb⟩; have n0_ := Aside0.mk (below_step HB.out hb); have n1_ := Aside0.mk (blk_below BX0.out hb); have n2_ := Aside0.mk (blk_below BX1.out hb); clear HB BX0 BX1 p0 q0 p1 q1 p2 q2 p3 q3 p4 q4 p5 q5; have HB := n0_; have BX0 := n1_; have BX1 := n2_; clear n0_ n1_ n2_ hb; have p0 : w5.cell? ⟨g0, 0, none⟩ = _ := (blk_cell BX0.out 0).trans rfl; have q0 : w5.cell? ⟨g1, 0, none⟩ = _ := (blk_cell BX1.out 0).trans rfl; have p1 : w5.cell? ⟨g0, 1, none⟩ = _ := (blk_cell BX0.out 1).trans rfl; have q1 : w5.cell? ⟨g1, 1, none⟩ = _ := (blk_cell BX1.out 1).trans rfl; have p2 : w5.cell? ⟨g0, 2, none⟩ = _ := (blk_cell BX0.out 2).trans rfl; have q2 : w5.cell? ⟨g1, 2, none⟩ = _ := (blk_cell BX1.out 2).trans rfl; have p3 : w5.cell? ⟨g0, 3, none⟩ = _ := (blk_cell BX0.out 3).trans rfl; have q3 : w5.cell? ⟨g1, 3, none⟩ = _ := (blk_cell BX1.out 3).trans rfl; have p4 : w5.cell? ⟨g0, 4, none⟩ = _ := (blk_cell BX0.out 4).trans rfl; have q4 : w5.cell? ⟨g1, 4, none⟩ = _ := (blk_cell BX1.out 4).trans rfl; have p5 : w5.cell? ⟨g0, 5, none⟩ = _ := (blk_cell BX0.out 5).trans rfl; have q5 : w5.cell? ⟨g1, 5, none⟩ = _ := (blk_cell BX1.out 5).trans rfl)))
              go_ret
              exact ⟨by rw [HE.out]; rfl, (by repeat (with_reducible first | exact HB.out | apply below_alloc | apply pw_below_drewN | (refine Below.setCell ?_ HB.out.size _)))⟩
            | true =>
              have HE : Aside0 ((eS x y) = true) := ⟨by unfold eS; rw [t0, t1, t2, t3, t4, t5]; rfl⟩
              have f0_0 : (x.f0.toList != y.f0.toList) = false := by simp only [bne, t0]; rfl
              have f2_0 : (x.f2.f0 != y.f2.f0) = false := by simp only [bne, t2]; rfl
              go_enter Try.func19, Try.ntmps19
              go_wp2_with (first | ((with_reducible refine gate_dst (N := 2) rfl ?_); refine box_event ?hg (N := 2) ?hd (cs := #[.string x.f0, .slice A1 x.f1.length c1, .int .i64 x.f2.f0, .slice A3 x.f2.f1.length c3, .slice A4 x.f2.f2.length c4, .slice A5 x.f3.length c5]) (t := 64) ?hr ?_; (case hd => rfl); (case hg => rfl); (case hr => first | (go_simp; done) | (go_simp; rfl)); intro g0 hgg0 w3 hbox hb; clear hgg0; have BX0 := Aside0.mk hbox; have n0_ := Aside0.mk (below_step HB.out hb); clear HB hbox hb; have HB := n0_; clear n0_) | ((with_reducible refine gate_dst (N := 3) rfl ?_); refine box_event ?hg (N := 3) ?hd (cs := #[.string y.f0, .slice B1 y.f1.length d1, .int .i64 y.f2.f0, .slice B3 y.f2.f1.length d3, .slice B4 y.f2.f2.length d4, .slice B5 y.f3.length d5]) (t := 64) ?hr ?_; (case hd => rfl); (case hg => rfl); (case hr => first | (go_simp; done) | (go_simp; rfl)); intro g1 hgg1 w4 hbox hb; clear hgg1; have BX1 := Aside0.mk hbox; have n0_ := Aside0.mk (below_step HB.out hb); have n1_ := Aside0.mk (blk_below BX0.out hb); clear HB BX0 hbox hb; have HB := n0_; have BX0 := n1_; clear n0_ n1_; have p0 : w4.cell? ⟨g0, 0, none⟩ = _ := (blk_cell BX0.out 0).trans rfl; have q0 : w4.cell? ⟨g1, 0, none⟩ = _ := (blk_cell BX1.out 0).trans rfl; have p1 : w4.cell? ⟨g0, 1, none⟩ = _ := (blk_cell BX0.out 1).trans rfl; have q1 : w4.cell? ⟨g1, 1, none⟩ = _ := (blk_cell BX1.out 1).trans rfl; have p2 : w4.cell? ⟨g0, 2, none⟩ = _ := (blk_cell BX0.out 2).trans rfl; have q2 : w4.cell? ⟨g1, 2, none⟩ = _ := (blk_cell BX1.out 2).trans rfl; have p3 : w4.cell? ⟨g0, 3, none⟩ = _ := (blk_cell BX0.out 3).trans rfl; have q3 : w4.cell? ⟨g1, 3, none⟩ = _ := (blk_cell BX1.out 3).trans rfl; have p4 : w4.cell? ⟨g0, 4, none⟩ = _ := (blk_cell BX0.out 4).trans rfl; have q4 : w4.cell? ⟨g1, 4, none⟩ = _ := (blk_cell BX1.out 4).trans rfl; have p5 : w4.cell? ⟨g0, 5, none⟩ = _ := (blk_cell BX0.out 5).trans rfl; have q5 : w4.cell? ⟨g1, 5, none⟩ = _ := (blk_cell BX1.out 5).trans rfl) | (go_at_call 51; ((with_reducible refine (eqA_calls _ _ _ _ _ _ _ (Kd.C_below HR1.out HB.out) HC1.out (Kd.C_below HS1.out HB.out) HD1.out).mono ?_); rintro e w5 ⟨rfl, hb⟩; have n0_ := Aside0.mk (below_step HB.out hb); have n1_ := Aside0.mk (blk_below BX0.out hb); have n2_ := Aside0.mk (blk_below BX1.out hb); clear HB BX0 BX1 p0 q0 p1 q1 p2 q2 p3 q3 p4 q4 p5 q5; have HB := n0_; have BX0 := n1_; have BX1 := n2_; clear n0_ n1_ n2_ hb; have p0 : w5.cell? ⟨g0, 0, none⟩ = _ := (blk_cell BX0.out 0).trans rfl; have q0 : w5.cell? ⟨g1, 0, none⟩ = _ := (blk_cell BX1.out 0).trans rfl; have p1 : w5.cell? ⟨g0, 1, none⟩ = _ := (blk_cell BX0.out 1).trans rfl; have q1 : w5.cell? ⟨g1, 1, none⟩ = _ := (blk_cell BX1.out 1).trans rfl; have p2 : w5.cell? ⟨g0, 2, none⟩ = _ := (blk_cell BX0.out 2).trans rfl; have q2 : w5.cell? ⟨g1, 2, none⟩ = _ := (blk_cell BX1.out 2).trans rfl; have p3 : w5.cell? ⟨g0, 3, none⟩ = _ := (blk_cell BX0.out 3).trans rfl; have q3 : w5.cell? ⟨g1, 3, none⟩ = _ := (blk_cell BX1.out 3).trans rfl; have p4 : w5.cell? ⟨g0, 4, none⟩ = _ := (blk_cell BX0.out 4).trans rfl; have q4 : w5.cell? ⟨g1, 4, none⟩ = _ := (blk_cell BX1.out 4).trans rfl; have p5 : w5.cell? ⟨g0, 5, none⟩ = _ := (blk_cell BX0.out 5).trans rfl; have q5 : w5.cell? ⟨g1, 5, none⟩ = _ := (blk_cell BX1.out 5).trans rfl)) | (go_at_call 52; ((with_reducible refine (EFF_calls _ _ _ _ _ _ _ (Kd.C_below HR3.out HB.out) HC3.out (Kd.C_below HS3.out HB.out) HD3.out).mono ?_); rintro e w5 ⟨rfl, hb⟩; have n0_ := Aside0.mk (below_step HB.out hb); have n1_ := Aside0.mk (blk_below BX0.out hb); have n2_ := Aside0.mk (blk_below BX1.out hb); clear HB BX0 BX1 p0 q0 p1 q1 p2 q2 p3 q3 p4 q4 p5 q5; have HB := n0_; have BX0 := n1_; have BX1 := n2_; clear n0_ n1_ n2_ hb; have p0 : w5.cell? ⟨g0, 0, none⟩ = _ := (blk_cell BX0.out 0).trans rfl; have q0 : w5.cell? ⟨g1, 0, none⟩ = _ := (blk_cell BX1.out 0).trans rfl; have p1 : w5.cell? ⟨g0, 1, none⟩ = _ := (blk_cell BX0.out 1).trans rfl; have q1 : w5.cell? ⟨g1, 1, none⟩ = _ := (blk_cell BX1.out 1).trans rfl; have p2 : w5.cell? ⟨g0, 2, none⟩ = _ := (blk_cell BX0.out 2).trans rfl; have q2 : w5.cell? ⟨g1, 2, none⟩ = _ := (blk_cell BX1.out 2).trans rfl; have p3 : w5.cell? ⟨g0, 3, none⟩ = _ := (blk_cell BX0.out 3).trans rfl; have q3 : w5.cell? ⟨g1, 3, none⟩ = _ := (blk_cell BX1.out 3).trans rfl; have p4 : w5.cell? ⟨g0, 4, none⟩ = _ := (blk_cell BX0.out 4).trans rfl; have q4 : w5.cell? ⟨g1, 4, none⟩ = _ := (blk_cell BX1.out 4).trans rfl; have p5 : w5.cell? ⟨g0, 5, none⟩ = _ := (blk_cell BX0.out 5).trans rfl; have q5 : w5.cell? ⟨g1, 5, none⟩ = _ := (blk_cell BX1.out 5).trans rfl)) | (go_at_call 20; ((with_reducible refine (EFM_calls _ _ _ _ _ _ _ (Kd.C_below HR4.out HB.out) HC4.out (Kd.C_below HS4.out HB.out) HD4.out).mono ?_); rintro e w5 ⟨rfl, hb⟩; have n0_ := Aside0.mk (below_step HB.out hb); have n1_ := Aside0.mk (blk_below BX0.out hb); have n2_ := Aside0.mk (blk_below BX1.out hb); clear HB BX0 BX1 p0 q0 p1 q1 p2 q2 p3 q3 p4 q4 p5 q5; have HB := n0_; have BX0 := n1_; have BX1 := n2_; clear n0_ n1_ n2_ hb; have p0 : w5.cell? ⟨g0, 0, none⟩ = _ := (blk_cell BX0.out 0).trans rfl; have q0 : w5.cell? ⟨g1, 0, none⟩ = _ := (blk_cell BX1.out 0).trans rfl; have p1 : w5.cell? ⟨g0, 1, none⟩ = _ := (blk_cell BX0.out 1).trans rfl; have q1 : w5.cell? ⟨g1, 1, none⟩ = _ := (blk_cell BX1.out 1).trans rfl; have p2 : w5.cell? ⟨g0, 2, none⟩ = _ := (blk_cell BX0.out 2).trans rfl; have q2 : w5.cell? ⟨g1, 2, none⟩ = _ := (blk_cell BX1.out 2).trans rfl; have p3 : w5.cell? ⟨g0, 3, none⟩ = _ := (blk_cell BX0.out 3).trans rfl; have q3 : w5.cell? ⟨g1, 3, none⟩ = _ := (blk_cell BX1.out 3).trans rfl; have p4 : w5.cell? ⟨g0, 4, none⟩ = _ := (blk_cell BX0.out 4).trans rfl; have q4 : w5.cell? ⟨g1, 4, none⟩ = _ := (blk_cell BX1.out 4).trans rfl; have p5 : w5.cell? ⟨g0, 5, none⟩ = _ := (blk_cell BX0.out 5).trans rfl; have q5 : w5.cell? ⟨g1, 5, none⟩ = _ := (blk_cell BX1.out 5).trans rfl)) | (go_at_call 54; ((with_reducible refine (eqN_calls _ _ _ _ _ _ _ (Kd.C_below HR5.out HB.out) HC5.out (Kd.C_below HS5.out HB.out) HD5.out).mono ?_); rintro e w5 ⟨rfl, hb⟩; have n0_ := Aside0.mk (below_step HB.out hb); have n1_ := Aside0.mk (blk_below BX0.out hb); have n2_ := Aside0.mk (blk_below BX1.out hb); clear HB BX0 BX1 p0 q0 p1 q1 p2 q2 p3 q3 p4 q4 p5 q5; have HB := n0_; have BX0 := n1_; have BX1 := n2_; clear n0_ n1_ n2_ hb; have p0 : w5.cell? ⟨g0, 0, none⟩ = _ := (blk_cell BX0.out 0).trans rfl; have q0 : w5.cell? ⟨g1, 0, none⟩ = _ := (blk_cell BX1.out 0).trans rfl; have p1 : w5.cell? ⟨g0, 1, none⟩ = _ := (blk_cell BX0.out 1).trans rfl; have q1 : w5.cell? ⟨g1, 1, none⟩ = _ := (blk_cell BX1.out 1).trans rfl; have p2 : w5.cell? ⟨g0, 2, none⟩ = _ := (blk_cell BX0.out 2).trans rfl; have q2 : w5.cell? ⟨g1, 2, none⟩ = _ := (blk_cell BX1.out 2).trans rfl; have p3 : w5.cell? ⟨g0, 3, none⟩ = _ := (blk_cell BX0.out 3).trans rfl; have q3 : w5.cell? ⟨g1, 3, none⟩ = _ := (blk_cell BX1.out 3).trans rfl; have p4 : w5.cell? ⟨g0, 4, none⟩ = _ := (blk_cell BX0.out 4).trans rfl; have q4 : w5.cell? ⟨g1, 4, none⟩ = _ := (blk_cell BX1.out 4).trans rfl; have p5 : w5.cell? ⟨g0, 5, none⟩ = _ := (blk_cell BX0.out 5).trans rfl; have q5 : w5.cell? ⟨g1, 5, none⟩ = _ := (blk_cell BX1.out 5).trans rfl)))
              go_ret
              exact ⟨by rw [HE.out]; rfl, (by repeat (with_reducible first | exact HB.out | apply below_alloc | apply pw_below_drewN | (refine Below.setCell ?_ HB.out.size _)))⟩
theorem EFS_calls (A0 : Option Addr) (c0 : Nat) (l0 : List S64) (A1 : Option Addr) (c1 : Nat) (l1 : List S64) (w : World) (hr0 : Kd.C k64 w A0 l0.length l0) (hc0 : l0.length ≤ c0) (hr1 : Kd.C k64 w A1 l1.length l1) (hc1 : l1.length ≤ c1) :
    Calls Try.prog 18 #[.slice A0 l0.length c0, .slice A1 l1.length c1, .func (.func 19) #[] #[]] w fun e w' => e = .returned (.bool (eqL eS l0 l1)) ∧ Below w.heap.size w w' := by
  have HR0 := Aside0.mk hr0; have HR1 := Aside0.mk hr1; have HB := Aside0.mk (Below.refl w.heap.size w); have HC0 := Aside0.mk hc0; have HC1 := Aside0.mk hc1
  have hm0 := hr0.2.1
  clear hr0 hr1 hc0 hc1
  by_cases hlen : l0.length = l1.length
  · have HLEN := Aside0.mk hlen
    have b0 : ((l0.length : Int) == (l1.length : Int)) = true := by simp [hlen]
    have b1 : ((l0.length : Int) != (l1.length : Int)) = false := by simp [hlen]
    have b2 : (l0.length == l1.length) = true := by simp [hlen]
    clear hlen
    go_enter Try.func18, Try.ntmps18
    go_wp2_with fail
    go_loopw [17] (fun i wr => ∃ k : Nat, k ≤ l0.length ∧ i = .int .i64 k ∧ Aside0 (eqL eS (l0.drop k) (l1.drop k) = eqL eS l0 l1) ∧ Aside0 (Below w.heap.size w wr)) (fun i _ => l0.length - (intOf i).toNat)
    case atStart => exact ⟨0, Nat.zero_le _, rfl, ⟨rfl⟩, ⟨(by repeat (with_reducible first | exact HB.out | apply below_alloc | apply pw_below_drewN | (refine Below.setCell ?_ HB.out.size _)))⟩⟩
    case round =>
      clear HB b0 b1 b2
      obtain ⟨k, hk, rfl, HQ, HB⟩ := hrel
      obtain ⟨wo, hwo⟩ : ∃ x, x = wr := ⟨_, rfl⟩; subst hwo
      by_cases hlt : k < l0.length
      · have hlt1 : k < l1.length := by have := HLEN.out; omega
        obtain ⟨ad0, A1, c1, A3, c3, A4, c4, A5, c5, e_, p0, p1, p2, p3, p4, p5, l1_, g1_, l3_, g3_, l4_, g4_, l5_, g5_⟩ := at_T64 HR0.out (k : Int) (by omega) (by omega)
        subst e_
        obtain ⟨x, hx⟩ : ∃ z, z = rd_T64 l0 k := ⟨_, rfl⟩
        rw [← hx, Int.toNat_natCast] at p0 p1 p2 p3 p4 p5
        rw [← hx] at l1_ g1_ l3_ g3_ l4_ g4_ l5_ g5_
        have f0 := pw_cell_below HB.out p0; clear p0
        have f1 := pw_cell_below HB.out p1; clear p1
        have f2 := pw_cell_below HB.out p2; clear p2
        have f3 := pw_cell_below HB.out p3; clear p3
        have f4 := pw_cell_below HB.out p4; clear p4
        have f5 := pw_cell_below HB.out p5; clear p5
        have LA1 := Aside0.mk l1_; have GA1 := Aside0.mk g1_; clear l1_ g1_
        have LA3 := Aside0.mk l3_; have GA3 := Aside0.mk g3_; clear l3_ g3_
        have LA4 := Aside0.mk l4_; have GA4 := Aside0.mk g4_; clear l4_ g4_
        have LA5 := Aside0.mk l5_; have GA5 := Aside0.mk g5_; clear l5_ g5_
        obtain ⟨ad1, B1, d1, B3, d3, B4, d4, B5, d5, e_, q0, q1, q2, q3, q4, q5, l1_, g1_, l3_, g3_, l4_, g4_, l5_, g5_⟩ := at_T64 HR1.out (k : Int) (by omega) (by omega)
        subst e_
        obtain ⟨y, hy⟩ : ∃ z, z = rd_T64 l1 k := ⟨_, rfl⟩
        rw [← hy, Int.toNat_natCast] at q0 q1 q2 q3 q4 q5
        rw [← hy] at l1_ g1_ l3_ g3_ l4_ g4_ l5_ g5_
        have g0 := pw_cell_below HB.out q0; clear q0
        have g1 := pw_cell_below HB.out q1; clear q1
        have g2 := pw_cell_below HB.out q2; clear q2
        have g3 := pw_cell_below HB.out q3; clear q3
        have g4 := pw_cell_below HB.out q4; clear q4
        have g5 := pw_cell_below HB.out q5; clear q5
        have LB1 := Aside0.mk l1_; have GB1 := Aside0.mk g1_; clear l1_ g1_
        have LB3 := Aside0.mk l3_; have GB3 := Aside0.mk g3_; clear l3_ g3_
        have LB4 := Aside0.mk l4_; have GB4 := Aside0.mk g4_; clear l4_ g4_
        have LB5 := Aside0.mk l5_; have GB5 := Aside0.mk g5_; clear l5_ g5_
        have hx' := at_k hlt hx; have hy' := at_k hlt1 hy; have HXM := Aside0.mk (List.mem_of_getElem? hx'); have HYM := Aside0.mk (List.mem_of_getElem? hy'); clear hx hy
        have HS := Aside0.mk (eqL_drop (e := eS) hx' hy'); clear hx' hy'
        cases hq : eS x y with
        | false =>
          have HE : Aside0 (eqL eS l0 l1 = false) := ⟨by rw [← HQ.out, HS.out, hq]; rfl⟩
          have HQB := Aside0.mk hq; clear hq HQ HS
          have hu := Try.underlying64
          have Hf0 := Aside0.mk f0
          have Hf1 := Aside0.mk f1
          have Hf2 := Aside0.mk f2
          have Hf3 := Aside0.mk f3
          have Hf4 := Aside0.mk f4
          have Hf5 := Aside0.mk f5
          have Hg0 := Aside0.mk g0
          have Hg1 := Aside0.mk g1
          have Hg2 := Aside0.mk g2
          have Hg3 := Aside0.mk g3
          have Hg4 := Aside0.mk g4
          have Hg5 := Aside0.mk g5
          have HG := Aside0.mk (Below.refl wo.heap.size wo)
          go_wp2_with (first | ((with_reducible refine gate_dst (N := 8) rfl ?_); (refine box_event ?hg (N := 8) ?hd (cs := #[.string ⟨#[]⟩, .slice none 0 0, .int .i64 0, .slice none 0 0, .slice none 0 0, .slice none 0 0]) (t := 64) ?hr ?_; (case hd => rfl); (case hg => rfl); (case hr => first | (go_simp; done) | (go_simp; rfl)); intro g8 hg w8_ hbox hb; have GE8 := Aside0.mk (show wo.heap.size ≤ g8 by rw [hg]; exact HG.out.size); have BX8 := Aside0.mk hbox; have n0_ := Aside0.mk (below_step HG.out hb); clear HG hg hbox hb; have HG := n0_; clear n0_; clear f0 f1 f2 f3 f4 f5 g0 g1 g2 g3 g4 g5; have f0 := pw_cell_below HG.out Hf0.out; have f1 := pw_cell_below HG.out Hf1.out; have f2 := pw_cell_below HG.out Hf2.out; have f3 := pw_cell_below HG.out Hf3.out; have f4 := pw_cell_below HG.out Hf4.out; have f5 := pw_cell_below HG.out Hf5.out; have g0 := pw_cell_below HG.out Hg0.out; have g1 := pw_cell_below HG.out Hg1.out; have g2 := pw_cell_below HG.out Hg2.out; have g3 := pw_cell_below HG.out Hg3.out; have g4 := pw_cell_below HG.out Hg4.out; have g5 := pw_cell_below HG.out Hg5.out)) | ((with_reducible refine gate_st (y := .tmp 21) rfl ?_); (refine ev_store rfl rfl 64 (.tmp 8) (.tmp 21) rfl g8 0 rfl 64 _ _ BX8.out rfl (by kernel_rfl) (Nat.le_of_ble_eq_true rfl) rfl ?_; intro w8s_ hx hk; have n0_ : Aside0 (w8s_.heap[g8]? = some (.cells #[.string x.f0, .slice A1 x.f1.length c1, .int .i64 x.f2.f0, .slice A3 x.f2.f1.length c3, .slice A4 x.f2.f2.length c4, .slice A5 x.f3.length c5] 64 (0, 0))) := ⟨hx⟩; have n1_ := Aside0.mk (hk.below HG.out GE8.out); clear BX8 HG hx hk; have BX8 := n0_; have HG := n1_; clear n0_ n1_; clear f0 f1 f2 f3 f4 f5 g0 g1 g2 g3 g4 g5; have f0 := pw_cell_below HG.out Hf0.out; have f1 := pw_cell_below HG.out Hf1.out; have f2 := pw_cell_below HG.out Hf2.out; have f3 := pw_cell_below HG.out Hf3.out; have f4 := pw_cell_below HG.out Hf4.out; have f5 := pw_cell_below HG.out Hf5.out; have g0 := pw_cell_below HG.out Hg0.out; have g1 := pw_cell_below HG.out Hg1.out; have g2 := pw_cell_below HG.out Hg2.out; have g3 := pw_cell_below HG.out Hg3.out; have g4 := pw_cell_below HG.out Hg4.out; have g5 := pw_cell_below HG.out Hg5.out)) | ((with_reducible refine gate_dst (N := 9) rfl ?_); (refine box_event ?hg (N := 9) ?hd (cs := #[.string ⟨#[]⟩, .slice none 0 0, .int .i64 0, .slice none 0 0, .slice none 0 0, .slice none 0 0]) (t := 64) ?hr ?_; (case hd => rfl); (case hg => rfl); (case hr => first | (go_simp; done) | (go_simp; rfl)); intro g9 hg w9_ hbox hb; have GE9 := Aside0.mk (show wo.heap.size ≤ g9 by rw [hg]; exact HG.out.size); have NE := Aside0.mk (show g8 ≠ g9 by rw [hg]; exact Nat.ne_of_lt (blk_lt BX8.out)); have n1_ := Aside0.mk (blk_below BX8.out hb); clear BX8; have BX8 := n1_; clear n1_; have BX9 := Aside0.mk hbox; have n0_ := Aside0.mk (below_step HG.out hb); clear HG hg hbox hb; have HG := n0_; clear n0_; clear f0 f1 f2 f3 f4 f5 g0 g1 g2 g3 g4 g5; have f0 := pw_cell_below HG.out Hf0.out; have f1 := pw_cell_below HG.out Hf1.out; have f2 := pw_cell_below HG.out Hf2.out; have f3 := pw_cell_below HG.out Hf3.out; have f4 := pw_cell_below HG.out Hf4.out; have f5 := pw_cell_below HG.out Hf5.out; have g0 := pw_cell_below HG.out Hg0.out; have g1 := pw_cell_below HG.out Hg1.out; have g2 := pw_cell_below HG.out Hg2.out; have g3 := pw_cell_below HG.out Hg3.out; have g4 := pw_cell_below HG.out Hg4.out; have g5 := pw_cell_below HG.out Hg5.out)) | ((with_reducible refine gate_st (y := .tmp 25) rfl ?_); (refine ev_store rfl rfl 64 (.tmp 9) (.tmp 25) rfl g9 0 rfl 64 _ _ BX9.out rfl (by kernel_rfl) (Nat.le_of_ble_eq_true rfl) rfl ?_; intro w9s_ hx hk; have n2_ := Aside0.mk ((hk.keep g8 NE.out).trans BX8.out); clear BX8; have BX8 := n2_; clear n2_; have n0_ : Aside0 (w9s_.heap[g9]? = some (.cells #[.string y.f0, .slice B1 y.f1.length d1, .int .i64 y.f2.f0, .slice B3 y.f2.f1.length d3, .slice B4 y.f2.f2.length d4, .slice B5 y.f3.length d5] 64 (0, 0))) := ⟨hx⟩; have n1_ := Aside0.mk (hk.below HG.out GE9.out); clear BX9 HG hx hk; have BX9 := n0_; have HG := n1_; clear n0_ n1_; clear f0 f1 f2 f3 f4 f5 g0 g1 g2 g3 g4 g5; have f0 := pw_cell_below HG.out Hf0.out; have f1 := pw_cell_below HG.out Hf1.out; have f2 := pw_cell_below HG.out Hf2.out; have f3 := pw_cell_below HG.out Hf3.out; have f4 := pw_cell_below HG.out Hf4.out; have f5 := pw_cell_below HG.out Hf5.out; have g0 := pw_cell_below HG.out Hg0.out; have g1 := pw_cell_below HG.out Hg1.out; have g2 := pw_cell_below HG.out Hg2.out; have g3 := pw_cell_below HG.out Hg3.out; have g4 := pw_cell_below HG.out Hg4.out; have g5 := pw_cell_below HG.out Hg5.out)) | ((with_reducible refine gate_dst (N := 27) rfl ?_); (refine ev_load rfl 64 (.tmp 8) rfl g8 0 6 rfl 64 (0, 0) _ BX8.out _ hu rfl ([.string x.f0, .slice A1 x.f1.length c1, .int .i64 x.f2.f0, .slice A3 x.f2.f1.length c3, .slice A4 x.f2.f2.length c4, .slice A5 x.f3.length c5]) rfl (by kernel_rfl) ?_)) | ((with_reducible refine gate_dst (N := 28) rfl ?_); (refine ev_load rfl 64 (.tmp 9) rfl g9 0 6 rfl 64 (0, 0) _ BX9.out _ hu rfl ([.string y.f0, .slice B1 y.f1.length d1, .int .i64 y.f2.f0, .slice B3 y.f2.f1.length d3, .slice B4 y.f2.f2.length d4, .slice B5 y.f3.length d5]) rfl (by kernel_rfl) ?_)))
          refine (sameSession_calls x y A1 c1 B1 d1 A3 c3 B3 d3 A4 c4 B4 d4 A5 c5 B5 d5 _ (Kd.C_below GA1.out (below_step HB.out HG.out)) LA1.out (Kd.C_below GB1.out (below_step HB.out HG.out)) LB1.out (Kd.C_below GA3.out (below_step HB.out HG.out)) LA3.out (Kd.C_below GB3.out (below_step HB.out HG.out)) LB3.out (Kd.C_below GA4.out (below_step HB.out HG.out)) LA4.out (Kd.C_below GB4.out (below_step HB.out HG.out)) LB4.out (Kd.C_below GA5.out (below_step HB.out HG.out)) LA5.out (Kd.C_below GB5.out (below_step HB.out HG.out)) LB5.out).mono ?_; rintro e w3 ⟨rfl, hb⟩; rw [HQB.out]; have n0_ := Aside0.mk (below_step (below_step HB.out HG.out) hb); clear HB HG hb; have HB := n0_; clear n0_
          go_wp2
          go_ret
          exact ⟨by rw [HE.out]; rfl, HB.out⟩
        | true =>
          have HE : Aside0 (eqL eS (l0.drop (k + 1)) (l1.drop (k + 1)) = eqL eS l0 l1) := ⟨by rw [← HQ.out, HS.out, hq]; rfl⟩
          have HQB := Aside0.mk hq; clear hq HQ HS
          have hu := Try.underlying64
          have Hf0 := Aside0.mk f0
          have Hf1 := Aside0.mk f1
          have Hf2 := Aside0.mk f2
          have Hf3 := Aside0.mk f3
          have Hf4 := Aside0.mk f4
          have Hf5 := Aside0.mk f5
          have Hg0 := Aside0.mk g0
          have Hg1 := Aside0.mk g1
          have Hg2 := Aside0.mk g2
          have Hg3 := Aside0.mk g3
          have Hg4 := Aside0.mk g4
          have Hg5 := Aside0.mk g5
          have HG := Aside0.mk (Below.refl wo.heap.size wo)
          go_wp2_with (first | ((with_reducible refine gate_dst (N := 8) rfl ?_); (refine box_event ?hg (N := 8) ?hd (cs := #[.string ⟨#[]⟩, .slice none 0 0, .int .i64 0, .slice none 0 0, .slice none 0 0, .slice none 0 0]) (t := 64) ?hr ?_; (case hd => rfl); (case hg => rfl); (case hr => first | (go_simp; done) | (go_simp; rfl)); intro g8 hg w8_ hbox hb; have GE8 := Aside0.mk (show wo.heap.size ≤ g8 by rw [hg]; exact HG.out.size); have BX8 := Aside0.mk hbox; have n0_ := Aside0.mk (below_step HG.out hb); clear HG hg hbox hb; have HG := n0_; clear n0_; clear f0 f1 f2 f3 f4 f5 g0 g1 g2 g3 g4 g5; have f0 := pw_cell_below HG.out Hf0.out; have f1 := pw_cell_below HG.out Hf1.out; have f2 := pw_cell_below HG.out Hf2.out; have f3 := pw_cell_below HG.out Hf3.out; have f4 := pw_cell_below HG.out Hf4.out; have f5 := pw_cell_below HG.out Hf5.out; have g0 := pw_cell_below HG.out Hg0.out; have g1 := pw_cell_below HG.out Hg1.out; have g2 := pw_cell_below HG.out Hg2.out; have g3 := pw_cell_below HG.out Hg3.out; have g4 := pw_cell_below HG.out Hg4.out; have g5 := pw_cell_below HG.out Hg5.out)) | ((with_reducible refine gate_st (y := .tmp 21) rfl ?_); (refine ev_store rfl rfl 64 (.tmp 8) (.tmp 21) rfl g8 0 rfl 64 _ _ BX8.out rfl (by kernel_rfl) (Nat.le_of_ble_eq_true rfl) rfl ?_; intro w8s_ hx hk; have n0_ : Aside0 (w8s_.heap[g8]? = some (.cells #[.string x.f0, .slice A1 x.f1.length c1, .int .i64 x.f2.f0, .slice A3 x.f2.f1.length c3, .slice A4 x.f2.f2.length c4, .slice A5 x.f3.length c5] 64 (0, 0))) := ⟨hx⟩; have n1_ := Aside0.mk (hk.below HG.out GE8.out); clear BX8 HG hx hk; have BX8 := n0_; have HG := n1_; clear n0_ n1_; clear f0 f1 f2 f3 f4 f5 g0 g1 g2 g3 g4 g5; have f0 := pw_cell_below HG.out Hf0.out; have f1 := pw_cell_below HG.out Hf1.out; have f2 := pw_cell_below HG.out Hf2.out; have f3 := pw_cell_below HG.out Hf3.out; have f4 := pw_cell_below HG.out Hf4.out; have f5 := pw_cell_below HG.out Hf5.out; have g0 := pw_cell_below HG.out Hg0.out; have g1 := pw_cell_below HG.out Hg1.out; have g2 := pw_cell_below HG.out Hg2.out; have g3 := pw_cell_below HG.out Hg3.out; have g4 := pw_cell_below HG.out Hg4.out; have g5 := pw_cell_below HG.out Hg5.out)) | ((with_reducible refine gate_dst (N := 9) rfl ?_); (refine box_event ?hg (N := 9) ?hd (cs := #[.string ⟨#[]⟩, .slice none 0 0, .int .i64 0, .slice none 0 0, .slice none 0 0, .slice none 0 0]) (t := 64) ?hr ?_; (case hd => rfl); (case hg => rfl); (case hr => first | (go_simp; done) | (go_simp; rfl)); intro g9 hg w9_ hbox hb; have GE9 := Aside0.mk (show wo.heap.size ≤ g9 by rw [hg]; exact HG.out.size); have NE := Aside0.mk (show g8 ≠ g9 by rw [hg]; exact Nat.ne_of_lt (blk_lt BX8.out)); have n1_ := Aside0.mk (blk_below BX8.out hb); clear BX8; have BX8 := n1_; clear n1_; have BX9 := Aside0.mk hbox; have n0_ := Aside0.mk (below_step HG.out hb); clear HG hg hbox hb; have HG := n0_; clear n0_; clear f0 f1 f2 f3 f4 f5 g0 g1 g2 g3 g4 g5; have f0 := pw_cell_below HG.out Hf0.out; have f1 := pw_cell_below HG.out Hf1.out; have f2 := pw_cell_below HG.out Hf2.out; have f3 := pw_cell_below HG.out Hf3.out; have f4 := pw_cell_below HG.out Hf4.out; have f5 := pw_cell_below HG.out Hf5.out; have g0 := pw_cell_below HG.out Hg0.out; have g1 := pw_cell_below HG.out Hg1.out; have g2 := pw_cell_below HG.out Hg2.out; have g3 := pw_cell_below HG.out Hg3.out; have g4 := pw_cell_below HG.out Hg4.out; have g5 := pw_cell_below HG.out Hg5.out)) | ((with_reducible refine gate_st (y := .tmp 25) rfl ?_); (refine ev_store rfl rfl 64 (.tmp 9) (.tmp 25) rfl g9 0 rfl 64 _ _ BX9.out rfl (by kernel_rfl) (Nat.le_of_ble_eq_true rfl) rfl ?_; intro w9s_ hx hk; have n2_ := Aside0.mk ((hk.keep g8 NE.out).trans BX8.out); clear BX8; have BX8 := n2_; clear n2_; have n0_ : Aside0 (w9s_.heap[g9]? = some (.cells #[.string y.f0, .slice B1 y.f1.length d1, .int .i64 y.f2.f0, .slice B3 y.f2.f1.length d3, .slice B4 y.f2.f2.length d4, .slice B5 y.f3.length d5] 64 (0, 0))) := ⟨hx⟩; have n1_ := Aside0.mk (hk.below HG.out GE9.out); clear BX9 HG hx hk; have BX9 := n0_; have HG := n1_; clear n0_ n1_; clear f0 f1 f2 f3 f4 f5 g0 g1 g2 g3 g4 g5; have f0 := pw_cell_below HG.out Hf0.out; have f1 := pw_cell_below HG.out Hf1.out; have f2 := pw_cell_below HG.out Hf2.out; have f3 := pw_cell_below HG.out Hf3.out; have f4 := pw_cell_below HG.out Hf4.out; have f5 := pw_cell_below HG.out Hf5.out; have g0 := pw_cell_below HG.out Hg0.out; have g1 := pw_cell_below HG.out Hg1.out; have g2 := pw_cell_below HG.out Hg2.out; have g3 := pw_cell_below HG.out Hg3.out; have g4 := pw_cell_below HG.out Hg4.out; have g5 := pw_cell_below HG.out Hg5.out)) | ((with_reducible refine gate_dst (N := 27) rfl ?_); (refine ev_load rfl 64 (.tmp 8) rfl g8 0 6 rfl 64 (0, 0) _ BX8.out _ hu rfl ([.string x.f0, .slice A1 x.f1.length c1, .int .i64 x.f2.f0, .slice A3 x.f2.f1.length c3, .slice A4 x.f2.f2.length c4, .slice A5 x.f3.length c5]) rfl (by kernel_rfl) ?_)) | ((with_reducible refine gate_dst (N := 28) rfl ?_); (refine ev_load rfl 64 (.tmp 9) rfl g9 0 6 rfl 64 (0, 0) _ BX9.out _ hu rfl ([.string y.f0, .slice B1 y.f1.length d1, .int .i64 y.f2.f0, .slice B3 y.f2.f1.length d3, .slice B4 y.f2.f2.length d4, .slice B5 y.f3.length d5]) rfl (by kernel_rfl) ?_)))
          refine (sameSession_calls x y A1 c1 B1 d1 A3 c3 B3 d3 A4 c4 B4 d4 A5 c5 B5 d5 _ (Kd.C_below GA1.out (below_step HB.out HG.out)) LA1.out (Kd.C_below GB1.out (below_step HB.out HG.out)) LB1.out (Kd.C_below GA3.out (below_step HB.out HG.out)) LA3.out (Kd.C_below GB3.out (below_step HB.out HG.out)) LB3.out (Kd.C_below GA4.out (below_step HB.out HG.out)) LA4.out (Kd.C_below GB4.out (below_step HB.out HG.out)) LB4.out (Kd.C_below GA5.out (below_step HB.out HG.out)) LA5.out (Kd.C_below GB5.out (below_step HB.out HG.out)) LB5.out).mono ?_; rintro e w3 ⟨rfl, hb⟩; rw [HQB.out]; have n0_ := Aside0.mk (below_step (below_step HB.out HG.out) hb); clear HB HG hb; have HB := n0_; clear n0_
          go_wp2
          go_roundw
          case rel => exact ⟨k + 1, by omega, by go_num, HE, HB⟩
          case measure => simp [intOf]; omega
      · obtain rfl : k = l0.length := by omega
        have HE : Aside0 (eqL eS l0 l1 = true) := ⟨by rw [← HQ.out]; exact eqL_end HLEN.out⟩
        clear HQ
        go_wp2
        go_ret
        exact ⟨by rw [HE.out]; rfl, HB.out⟩
  · have HE : Aside0 (eqL eS l0 l1 = false) := ⟨eqL_ne hlen⟩
    have b0 : ((l0.length : Int) == (l1.length : Int)) = false := by simp; omega
    have b1 : ((l0.length : Int) != (l1.length : Int)) = true := by simp; omega
    have b2 : (l0.length == l1.length) = false := by simp; omega
    clear hlen
    go_enter Try.func18, Try.ntmps18
    go_wp2
    go_ret
    exact ⟨by rw [HE.out]; rfl, HB.out⟩
theorem imageSame_calls (au bu : Int) (ls ms : List S64) (lr mr : List S72) (lg mg : List S66) (A1 : Option Addr) (c1 : Nat) (B1 : Option Addr) (d1 : Nat) (A2 : Option Addr) (c2 : Nat) (B2 : Option Addr) (d2 : Nat) (A3 : Option Addr) (c3 : Nat) (B3 : Option Addr) (d3 : Nat) (w : World) (hr1 : Kd.C k64 w A1 ls.length ls) (hc1 : ls.length ≤ c1) (hs1 : Kd.C k64 w B1 ms.length ms) (hd1 : ms.length ≤ d1) (hr2 : Kd.C k72 w A2 lr.length lr) (hc2 : lr.length ≤ c2) (hs2 : Kd.C k72 w B2 mr.length mr) (hd2 : mr.length ≤ d2) (hr3 : Kd.C k66 w A3 lg.length lg) (hc3 : lg.length ≤ c3) (hs3 : Kd.C k66 w B3 mg.length mg) (hd3 : mg.length ≤ d3) :
    Calls Try.prog 7 #[.agg #[.int .i64 au, .slice A1 ls.length c1, .slice A2 lr.length c2, .slice A3 lg.length c3], .agg #[.int .i64 bu, .slice B1 ms.length d1, .slice B2 mr.length d2, .slice B3 mg.length d3]] w fun e w' => e = .returned (.bool (eI au bu ls ms lr mr lg mg)) ∧ Below w.heap.size w w' := by
  have HR1 := Aside0.mk hr1; have HC1 := Aside0.mk hc1; have HS1 := Aside0.mk hs1; have HD1 := Aside0.mk hd1
  have HR2 := Aside0.mk hr2; have HC2 := Aside0.mk hc2; have HS2 := Aside0.mk hs2; have HD2 := Aside0.mk hd2
  have HR3 := Aside0.mk hr3; have HC3 := Aside0.mk hc3; have HS3 := Aside0.mk hs3; have HD3 := Aside0.mk hd3
  have HB := Aside0.mk (Below.refl w.heap.size w)
  clear hr1 hc1 hs1 hd1 hr2 hc2 hs2 hd2 hr3 hc3 hs3 hd3
  cases t0 : (au == bu) with
  | false =>
    have HE : Aside0 ((eI au bu ls ms lr mr lg mg) = false) := ⟨by unfold eI; rw [t0]; rfl⟩
    have f0_0 : (au != bu) = true := by simp only [bne, t0]; rfl
    go_enter Try.func7, Try.ntmps7
    go_wp2_with (first | ((with_reducible refine gate_dst (N := 2) rfl ?_); refine box_event ?hg (N := 2) ?hd (cs := #[.int .i64 au, .slice A1 ls.length c1, .slice A2 lr.length c2, .slice A3 lg.length c3]) (t := 26) ?hr ?_; (case hd => rfl); (case hg => rfl); (case hr => first | (go_simp; done) | (go_simp; rfl)); intro g0 hgg0 w3 hbox hb; clear hgg0; have BX0 := Aside0.mk hbox; have n0_ := Aside0.mk (below_step HB.out hb); clear HB hbox hb; have HB := n0_; clear n0_) | ((with_reducible refine gate_dst (N := 3) rfl ?_); refine box_event ?hg (N := 3) ?hd (cs := #[.int .i64 bu, .slice B1 ms.length d1, .slice B2 mr.length d2, .slice B3 mg.length d3]) (t := 26) ?hr ?_; (case hd => rfl); (case hg => rfl); (case hr => first | (go_simp; done) | (go_simp; rfl)); intro g1 hgg1 w4 hbox hb; clear hgg1; have BX1 := Aside0.mk hbox; have n0_ := Aside0.mk (below_step HB.out hb); have n1_ := Aside0.mk (blk_below BX0.out hb); clear HB BX0 hbox hb; have HB := n0_; have BX0 := n1_; clear n0_ n1_; have p0 : w4.cell? ⟨g0, 0, none⟩ = _ := (blk_cell BX0.out 0).trans rfl; have q0 : w4.cell? ⟨g1, 0, none⟩ = _ := (blk_cell BX1.out 0).trans rfl; have p1 : w4.cell? ⟨g0, 1, none⟩ = _ := (blk_cell BX0.out 1).trans rfl; have q1 : w4.cell? ⟨g1, 1, none⟩ = _ := (blk_cell BX1.out 1).trans rfl; have p2 : w4.cell? ⟨g0, 2, none⟩ = _ := (blk_cell BX0.out 2).trans rfl; have q2 : w4.cell? ⟨g1, 2, none⟩ = _ := (blk_cell BX1.out 2).trans rfl; have p3 : w4.cell? ⟨g0, 3, none⟩ = _ := (blk_cell BX0.out 3).trans rfl; have q3 : w4.cell? ⟨g1, 3, none⟩ = _ := (blk_cell BX1.out 3).trans rfl))
    go_ret
    exact ⟨by rw [HE.out]; rfl, (by repeat (with_reducible first | exact HB.out | apply below_alloc | apply pw_below_drewN | (refine Below.setCell ?_ HB.out.size _)))⟩
  | true =>
    cases t1 : (eqL eS ls ms) with
    | false =>
      have HE : Aside0 ((eI au bu ls ms lr mr lg mg) = false) := ⟨by unfold eI; rw [t0, t1]; rfl⟩
      have f0_0 : (au != bu) = false := by simp only [bne, t0]; rfl
      go_enter Try.func7, Try.ntmps7
      go_wp2_with (first | ((with_reducible refine gate_dst (N := 2) rfl ?_); refine box_event ?hg (N := 2) ?hd (cs := #[.int .i64 au, .slice A1 ls.length c1, .slice A2 lr.length c2, .slice A3 lg.length c3]) (t := 26) ?hr ?_; (case hd => rfl); (case hg => rfl); (case hr => first | (go_simp; done) | (go_simp; rfl)); intro g0 hgg0 w3 hbox hb; clear hgg0; have BX0 := Aside0.mk hbox; have n0_ := Aside0.mk (below_step HB.out hb); clear HB hbox hb; have HB := n0_; clear n0_) | ((with_reducible refine gate_dst (N := 3) rfl ?_); refine box_event ?hg (N := 3) ?hd (cs := #[.int .i64 bu, .slice B1 ms.length d1, .slice B2 mr.length d2, .slice B3 mg.length d3]) (t := 26) ?hr ?_; (case hd => rfl); (case hg => rfl); (case hr => first | (go_simp; done) | (go_simp; rfl)); intro g1 hgg1 w4 hbox hb; clear hgg1; have BX1 := Aside0.mk hbox; have n0_ := Aside0.mk (below_step HB.out hb); have n1_ := Aside0.mk (blk_below BX0.out hb); clear HB BX0 hbox hb; have HB := n0_; have BX0 := n1_; clear n0_ n1_; have p0 : w4.cell? ⟨g0, 0, none⟩ = _ := (blk_cell BX0.out 0).trans rfl; have q0 : w4.cell? ⟨g1, 0, none⟩ = _ := (blk_cell BX1.out 0).trans rfl; have p1 : w4.cell? ⟨g0, 1, none⟩ = _ := (blk_cell BX0.out 1).trans rfl; have q1 : w4.cell? ⟨g1, 1, none⟩ = _ := (blk_cell BX1.out 1).trans rfl; have p2 : w4.cell? ⟨g0, 2, none⟩ = _ := (blk_cell BX0.out 2).trans rfl; have q2 : w4.cell? ⟨g1, 2, none⟩ = _ := (blk_cell BX1.out 2).trans rfl; have p3 : w4.cell? ⟨g0, 3, none⟩ = _ := (blk_cell BX0.out 3).trans rfl; have q3 : w4.cell? ⟨g1, 3, none⟩ = _ := (blk_cell BX1.out 3).trans rfl) | (go_at_call 18; ((with_reducible refine (EFS_calls _ _ _ _ _ _ _ (Kd.C_below HR1.out HB.out) HC1.out (Kd.C_below HS1.out HB.out) HD1.out).mono ?_); rintro e w5 ⟨rfl, hb⟩; have n0_ := Aside0.mk (below_step HB.out hb); have n1_ := Aside0.mk (blk_below BX0.out hb); have n2_ := Aside0.mk (blk_below BX1.out hb); clear HB BX0 BX1 p0 q0 p1 q1 p2 q2 p3 q3; have HB := n0_; have BX0 := n1_; have BX1 := n2_; clear n0_ n1_ n2_ hb; have p0 : w5.cell? ⟨g0, 0, none⟩ = _ := (blk_cell BX0.out 0).trans rfl; have q0 : w5.cell? ⟨g1, 0, none⟩ = _ := (blk_cell BX1.out 0).trans rfl; have p1 : w5.cell? ⟨g0, 1, none⟩ = _ := (blk_cell BX0.out 1).trans rfl; have q1 : w5.cell? ⟨g1, 1, none⟩ = _ := (blk_cell BX1.out 1).trans rfl; have p2 : w5.cell? ⟨g0, 2, none⟩ = _ := (blk_cell BX0.out 2).trans rfl; have q2 : w5.cell? ⟨g1, 2, none⟩ = _ := (blk_cell BX1.out 2).trans rfl; have p3 : w5.cell? ⟨g0, 3, none⟩ = _ := (blk_cell BX0.out 3).trans rfl; have q3 : w5.cell? ⟨g1, 3, none⟩ = _ := (blk_cell BX1.out 3).trans rfl)))
      go_ret
      exact ⟨by rw [HE.out]; rfl, (by repeat (with_reducible first | exact HB.out | apply below_alloc | apply pw_below_drewN | (refine Below.setCell ?_ HB.out.size _)))⟩
    | true =>
      cases t2 : (eqL eM lr mr) with
      | false =>
        have HE : Aside0 ((eI au bu ls ms lr mr lg mg) = false) := ⟨by unfold eI; rw [t0, t1, t2]; rfl⟩
        have f0_0 : (au != bu) = false := by simp only [bne, t0]; rfl
        go_enter Try.func7, Try.ntmps7
        go_wp2_with (first | ((with_reducible refine gate_dst (N := 2) rfl ?_); refine box_event ?hg (N := 2) ?hd (cs := #[.int .i64 au, .slice A1 ls.length c1, .slice A2 lr.length c2, .slice A3 lg.length c3]) (t := 26) ?hr ?_; (case hd => rfl); (case hg => rfl); (case hr => first | (go_simp; done) | (go_simp; rfl)); intro g0 hgg0 w3 hbox hb; clear hgg0; have BX0 := Aside0.mk hbox; have n0_ := Aside0.mk (below_step HB.out hb); clear HB hbox hb; have HB := n0_; clear n0_) | ((with_reducible refine gate_dst (N := 3) rfl ?_); refine box_event ?hg (N := 3) ?hd (cs := #[.int .i64 bu, .slice B1 ms.length d1, .slice B2 mr.length d2, .slice B3 mg.length d3]) (t := 26) ?hr ?_; (case hd => rfl); (case hg => rfl); (case hr => first | (go_simp; done) | (go_simp; rfl)); intro g1 hgg1 w4 hbox hb; clear hgg1; have BX1 := Aside0.mk hbox; have n0_ := Aside0.mk (below_step HB.out hb); have n1_ := Aside0.mk (blk_below BX0.out hb); clear HB BX0 hbox hb; have HB := n0_; have BX0 := n1_; clear n0_ n1_; have p0 : w4.cell? ⟨g0, 0, none⟩ = _ := (blk_cell BX0.out 0).trans rfl; have q0 : w4.cell? ⟨g1, 0, none⟩ = _ := (blk_cell BX1.out 0).trans rfl; have p1 : w4.cell? ⟨g0, 1, none⟩ = _ := (blk_cell BX0.out 1).trans rfl; have q1 : w4.cell? ⟨g1, 1, none⟩ = _ := (blk_cell BX1.out 1).trans rfl; have p2 : w4.cell? ⟨g0, 2, none⟩ = _ := (blk_cell BX0.out 2).trans rfl; have q2 : w4.cell? ⟨g1, 2, none⟩ = _ := (blk_cell BX1.out 2).trans rfl; have p3 : w4.cell? ⟨g0, 3, none⟩ = _ := (blk_cell BX0.out 3).trans rfl; have q3 : w4.cell? ⟨g1, 3, none⟩ = _ := (blk_cell BX1.out 3).trans rfl) | (go_at_call 18; ((with_reducible refine (EFS_calls _ _ _ _ _ _ _ (Kd.C_below HR1.out HB.out) HC1.out (Kd.C_below HS1.out HB.out) HD1.out).mono ?_); rintro e w5 ⟨rfl, hb⟩; have n0_ := Aside0.mk (below_step HB.out hb); have n1_ := Aside0.mk (blk_below BX0.out hb); have n2_ := Aside0.mk (blk_below BX1.out hb); clear HB BX0 BX1 p0 q0 p1 q1 p2 q2 p3 q3; have HB := n0_; have BX0 := n1_; have BX1 := n2_; clear n0_ n1_ n2_ hb; have p0 : w5.cell? ⟨g0, 0, none⟩ = _ := (blk_cell BX0.out 0).trans rfl; have q0 : w5.cell? ⟨g1, 0, none⟩ = _ := (blk_cell BX1.out 0).trans rfl; have p1 : w5.cell? ⟨g0, 1, none⟩ = _ := (blk_cell BX0.out 1).trans rfl; have q1 : w5.cell? ⟨g1, 1, none⟩ = _ := (blk_cell BX1.out 1).trans rfl; have p2 : w5.cell? ⟨g0, 2, none⟩ = _ := (blk_cell BX0.out 2).trans rfl; have q2 : w5.cell? ⟨g1, 2, none⟩ = _ := (blk_cell BX1.out 2).trans rfl; have p3 : w5.cell? ⟨g0, 3, none⟩ = _ := (blk_cell BX0.out 3).trans rfl; have q3 : w5.cell? ⟨g1, 3, none⟩ = _ := (blk_cell BX1.out 3).trans rfl)) | (go_at_call 20; ((with_reducible refine (EFM_calls _ _ _ _ _ _ _ (Kd.C_below HR2.out HB.out) HC2.out (Kd.C_below HS2.out HB.out) HD2.out).mono ?_); rintro e w5 ⟨rfl, hb⟩; have n0_ := Aside0.mk (below_step HB.out hb); have n1_ := Aside0.mk (blk_below BX0.out hb); have n2_ := Aside0.mk (blk_below BX1.out hb); clear HB BX0 BX1 p0 q0 p1 q1 p2 q2 p3 q3; have HB := n0_; have BX0 := n1_; have BX1 := n2_; clear n0_ n1_ n2_ hb; have p0 : w5.cell? ⟨g0, 0, none⟩ = _ := (blk_cell BX0.out 0).trans rfl; have q0 : w5.cell? ⟨g1, 0, none⟩ = _ := (blk_cell BX1.out 0).trans rfl; have p1 : w5.cell? ⟨g0, 1, none⟩ = _ := (blk_cell BX0.out 1).trans rfl; have q1 : w5.cell? ⟨g1, 1, none⟩ = _ := (blk_cell BX1.out 1).trans rfl; have p2 : w5.cell? ⟨g0, 2, none⟩ = _ := (blk_cell BX0.out 2).trans rfl; have q2 : w5.cell? ⟨g1, 2, none⟩ = _ := (blk_cell BX1.out 2).trans rfl; have p3 : w5.cell? ⟨g0, 3, none⟩ = _ := (blk_cell BX0.out 3).trans rfl; have q3 : w5.cell? ⟨g1, 3, none⟩ = _ := (blk_cell BX1.out 3).trans rfl)))
        go_ret
        exact ⟨by rw [HE.out]; rfl, (by repeat (with_reducible first | exact HB.out | apply below_alloc | apply pw_below_drewN | (refine Below.setCell ?_ HB.out.size _)))⟩
      | true =>
        cases t3 : (eqL eG lg mg) with
        | false =>
          have HE : Aside0 ((eI au bu ls ms lr mr lg mg) = false) := ⟨by unfold eI; rw [t0, t1, t2, t3]; rfl⟩
          have f0_0 : (au != bu) = false := by simp only [bne, t0]; rfl
          go_enter Try.func7, Try.ntmps7
          go_wp2_with (first | ((with_reducible refine gate_dst (N := 2) rfl ?_); refine box_event ?hg (N := 2) ?hd (cs := #[.int .i64 au, .slice A1 ls.length c1, .slice A2 lr.length c2, .slice A3 lg.length c3]) (t := 26) ?hr ?_; (case hd => rfl); (case hg => rfl); (case hr => first | (go_simp; done) | (go_simp; rfl)); intro g0 hgg0 w3 hbox hb; clear hgg0; have BX0 := Aside0.mk hbox; have n0_ := Aside0.mk (below_step HB.out hb); clear HB hbox hb; have HB := n0_; clear n0_) | ((with_reducible refine gate_dst (N := 3) rfl ?_); refine box_event ?hg (N := 3) ?hd (cs := #[.int .i64 bu, .slice B1 ms.length d1, .slice B2 mr.length d2, .slice B3 mg.length d3]) (t := 26) ?hr ?_; (case hd => rfl); (case hg => rfl); (case hr => first | (go_simp; done) | (go_simp; rfl)); intro g1 hgg1 w4 hbox hb; clear hgg1; have BX1 := Aside0.mk hbox; have n0_ := Aside0.mk (below_step HB.out hb); have n1_ := Aside0.mk (blk_below BX0.out hb); clear HB BX0 hbox hb; have HB := n0_; have BX0 := n1_; clear n0_ n1_; have p0 : w4.cell? ⟨g0, 0, none⟩ = _ := (blk_cell BX0.out 0).trans rfl; have q0 : w4.cell? ⟨g1, 0, none⟩ = _ := (blk_cell BX1.out 0).trans rfl; have p1 : w4.cell? ⟨g0, 1, none⟩ = _ := (blk_cell BX0.out 1).trans rfl; have q1 : w4.cell? ⟨g1, 1, none⟩ = _ := (blk_cell BX1.out 1).trans rfl; have p2 : w4.cell? ⟨g0, 2, none⟩ = _ := (blk_cell BX0.out 2).trans rfl; have q2 : w4.cell? ⟨g1, 2, none⟩ = _ := (blk_cell BX1.out 2).trans rfl; have p3 : w4.cell? ⟨g0, 3, none⟩ = _ := (blk_cell BX0.out 3).trans rfl; have q3 : w4.cell? ⟨g1, 3, none⟩ = _ := (blk_cell BX1.out 3).trans rfl) | (go_at_call 18; ((with_reducible refine (EFS_calls _ _ _ _ _ _ _ (Kd.C_below HR1.out HB.out) HC1.out (Kd.C_below HS1.out HB.out) HD1.out).mono ?_); rintro e w5 ⟨rfl, hb⟩; have n0_ := Aside0.mk (below_step HB.out hb); have n1_ := Aside0.mk (blk_below BX0.out hb); have n2_ := Aside0.mk (blk_below BX1.out hb); clear HB BX0 BX1 p0 q0 p1 q1 p2 q2 p3 q3; have HB := n0_; have BX0 := n1_; have BX1 := n2_; clear n0_ n1_ n2_ hb; have p0 : w5.cell? ⟨g0, 0, none⟩ = _ := (blk_cell BX0.out 0).trans rfl; have q0 : w5.cell? ⟨g1, 0, none⟩ = _ := (blk_cell BX1.out 0).trans rfl; have p1 : w5.cell? ⟨g0, 1, none⟩ = _ := (blk_cell BX0.out 1).trans rfl; have q1 : w5.cell? ⟨g1, 1, none⟩ = _ := (blk_cell BX1.out 1).trans rfl; have p2 : w5.cell? ⟨g0, 2, none⟩ = _ := (blk_cell BX0.out 2).trans rfl; have q2 : w5.cell? ⟨g1, 2, none⟩ = _ := (blk_cell BX1.out 2).trans rfl; have p3 : w5.cell? ⟨g0, 3, none⟩ = _ := (blk_cell BX0.out 3).trans rfl; have q3 : w5.cell? ⟨g1, 3, none⟩ = _ := (blk_cell BX1.out 3).trans rfl)) | (go_at_call 20; ((with_reducible refine (EFM_calls _ _ _ _ _ _ _ (Kd.C_below HR2.out HB.out) HC2.out (Kd.C_below HS2.out HB.out) HD2.out).mono ?_); rintro e w5 ⟨rfl, hb⟩; have n0_ := Aside0.mk (below_step HB.out hb); have n1_ := Aside0.mk (blk_below BX0.out hb); have n2_ := Aside0.mk (blk_below BX1.out hb); clear HB BX0 BX1 p0 q0 p1 q1 p2 q2 p3 q3; have HB := n0_; have BX0 := n1_; have BX1 := n2_; clear n0_ n1_ n2_ hb; have p0 : w5.cell? ⟨g0, 0, none⟩ = _ := (blk_cell BX0.out 0).trans rfl; have q0 : w5.cell? ⟨g1, 0, none⟩ = _ := (blk_cell BX1.out 0).trans rfl; have p1 : w5.cell? ⟨g0, 1, none⟩ = _ := (blk_cell BX0.out 1).trans rfl; have q1 : w5.cell? ⟨g1, 1, none⟩ = _ := (blk_cell BX1.out 1).trans rfl; have p2 : w5.cell? ⟨g0, 2, none⟩ = _ := (blk_cell BX0.out 2).trans rfl; have q2 : w5.cell? ⟨g1, 2, none⟩ = _ := (blk_cell BX1.out 2).trans rfl; have p3 : w5.cell? ⟨g0, 3, none⟩ = _ := (blk_cell BX0.out 3).trans rfl; have q3 : w5.cell? ⟨g1, 3, none⟩ = _ := (blk_cell BX1.out 3).trans rfl)) | (go_at_call 22; ((with_reducible refine (eqG_calls _ _ _ _ _ _ _ (Kd.C_below HR3.out HB.out) HC3.out (Kd.C_below HS3.out HB.out) HD3.out).mono ?_); rintro e w5 ⟨rfl, hb⟩; have n0_ := Aside0.mk (below_step HB.out hb); have n1_ := Aside0.mk (blk_below BX0.out hb); have n2_ := Aside0.mk (blk_below BX1.out hb); clear HB BX0 BX1 p0 q0 p1 q1 p2 q2 p3 q3; have HB := n0_; have BX0 := n1_; have BX1 := n2_; clear n0_ n1_ n2_ hb; have p0 : w5.cell? ⟨g0, 0, none⟩ = _ := (blk_cell BX0.out 0).trans rfl; have q0 : w5.cell? ⟨g1, 0, none⟩ = _ := (blk_cell BX1.out 0).trans rfl; have p1 : w5.cell? ⟨g0, 1, none⟩ = _ := (blk_cell BX0.out 1).trans rfl; have q1 : w5.cell? ⟨g1, 1, none⟩ = _ := (blk_cell BX1.out 1).trans rfl; have p2 : w5.cell? ⟨g0, 2, none⟩ = _ := (blk_cell BX0.out 2).trans rfl; have q2 : w5.cell? ⟨g1, 2, none⟩ = _ := (blk_cell BX1.out 2).trans rfl; have p3 : w5.cell? ⟨g0, 3, none⟩ = _ := (blk_cell BX0.out 3).trans rfl; have q3 : w5.cell? ⟨g1, 3, none⟩ = _ := (blk_cell BX1.out 3).trans rfl)))
          go_ret
          exact ⟨by rw [HE.out]; rfl, (by repeat (with_reducible first | exact HB.out | apply below_alloc | apply pw_below_drewN | (refine Below.setCell ?_ HB.out.size _)))⟩
        | true =>
          have HE : Aside0 ((eI au bu ls ms lr mr lg mg) = true) := ⟨by unfold eI; rw [t0, t1, t2, t3]; rfl⟩
          have f0_0 : (au != bu) = false := by simp only [bne, t0]; rfl
          go_enter Try.func7, Try.ntmps7
          go_wp2_with (first | ((with_reducible refine gate_dst (N := 2) rfl ?_); refine box_event ?hg (N := 2) ?hd (cs := #[.int .i64 au, .slice A1 ls.length c1, .slice A2 lr.length c2, .slice A3 lg.length c3]) (t := 26) ?hr ?_; (case hd => rfl); (case hg => rfl); (case hr => first | (go_simp; done) | (go_simp; rfl)); intro g0 hgg0 w3 hbox hb; clear hgg0; have BX0 := Aside0.mk hbox; have n0_ := Aside0.mk (below_step HB.out hb); clear HB hbox hb; have HB := n0_; clear n0_) | ((with_reducible refine gate_dst (N := 3) rfl ?_); refine box_event ?hg (N := 3) ?hd (cs := #[.int .i64 bu, .slice B1 ms.length d1, .slice B2 mr.length d2, .slice B3 mg.length d3]) (t := 26) ?hr ?_; (case hd => rfl); (case hg => rfl); (case hr => first | (go_simp; done) | (go_simp; rfl)); intro g1 hgg1 w4 hbox hb; clear hgg1; have BX1 := Aside0.mk hbox; have n0_ := Aside0.mk (below_step HB.out hb); have n1_ := Aside0.mk (blk_below BX0.out hb); clear HB BX0 hbox hb; have HB := n0_; have BX0 := n1_; clear n0_ n1_; have p0 : w4.cell? ⟨g0, 0, none⟩ = _ := (blk_cell BX0.out 0).trans rfl; have q0 : w4.cell? ⟨g1, 0, none⟩ = _ := (blk_cell BX1.out 0).trans rfl; have p1 : w4.cell? ⟨g0, 1, none⟩ = _ := (blk_cell BX0.out 1).trans rfl; have q1 : w4.cell? ⟨g1, 1, none⟩ = _ := (blk_cell BX1.out 1).trans rfl; have p2 : w4.cell? ⟨g0, 2, none⟩ = _ := (blk_cell BX0.out 2).trans rfl; have q2 : w4.cell? ⟨g1, 2, none⟩ = _ := (blk_cell BX1.out 2).trans rfl; have p3 : w4.cell? ⟨g0, 3, none⟩ = _ := (blk_cell BX0.out 3).trans rfl; have q3 : w4.cell? ⟨g1, 3, none⟩ = _ := (blk_cell BX1.out 3).trans rfl) | (go_at_call 18; ((with_reducible refine (EFS_calls _ _ _ _ _ _ _ (Kd.C_below HR1.out HB.out) HC1.out (Kd.C_below HS1.out HB.out) HD1.out).mono ?_); rintro e w5 ⟨rfl, hb⟩; have n0_ := Aside0.mk (below_step HB.out hb); have n1_ := Aside0.mk (blk_below BX0.out hb); have n2_ := Aside0.mk (blk_below BX1.out hb); clear HB BX0 BX1 p0 q0 p1 q1 p2 q2 p3 q3; have HB := n0_; have BX0 := n1_; have BX1 := n2_; clear n0_ n1_ n2_ hb; have p0 : w5.cell? ⟨g0, 0, none⟩ = _ := (blk_cell BX0.out 0).trans rfl; have q0 : w5.cell? ⟨g1, 0, none⟩ = _ := (blk_cell BX1.out 0).trans rfl; have p1 : w5.cell? ⟨g0, 1, none⟩ = _ := (blk_cell BX0.out 1).trans rfl; have q1 : w5.cell? ⟨g1, 1, none⟩ = _ := (blk_cell BX1.out 1).trans rfl; have p2 : w5.cell? ⟨g0, 2, none⟩ = _ := (blk_cell BX0.out 2).trans rfl; have q2 : w5.cell? ⟨g1, 2, none⟩ = _ := (blk_cell BX1.out 2).trans rfl; have p3 : w5.cell? ⟨g0, 3, none⟩ = _ := (blk_cell BX0.out 3).trans rfl; have q3 : w5.cell? ⟨g1, 3, none⟩ = _ := (blk_cell BX1.out 3).trans rfl)) | (go_at_call 20; ((with_reducible refine (EFM_calls _ _ _ _ _ _ _ (Kd.C_below HR2.out HB.out) HC2.out (Kd.C_below HS2.out HB.out) HD2.out).mono ?_); rintro e w5 ⟨rfl, hb⟩; have n0_ := Aside0.mk (below_step HB.out hb); have n1_ := Aside0.mk (blk_below BX0.out hb); have n2_ := Aside0.mk (blk_below BX1.out hb); clear HB BX0 BX1 p0 q0 p1 q1 p2 q2 p3 q3; have HB := n0_; have BX0 := n1_; have BX1 := n2_; clear n0_ n1_ n2_ hb; have p0 : w5.cell? ⟨g0, 0, none⟩ = _ := (blk_cell BX0.out 0).trans rfl; have q0 : w5.cell? ⟨g1, 0, none⟩ = _ := (blk_cell BX1.out 0).trans rfl; have p1 : w5.cell? ⟨g0, 1, none⟩ = _ := (blk_cell BX0.out 1).trans rfl; have q1 : w5.cell? ⟨g1, 1, none⟩ = _ := (blk_cell BX1.out 1).trans rfl; have p2 : w5.cell? ⟨g0, 2, none⟩ = _ := (blk_cell BX0.out 2).trans rfl; have q2 : w5.cell? ⟨g1, 2, none⟩ = _ := (blk_cell BX1.out 2).trans rfl; have p3 : w5.cell? ⟨g0, 3, none⟩ = _ := (blk_cell BX0.out 3).trans rfl; have q3 : w5.cell? ⟨g1, 3, none⟩ = _ := (blk_cell BX1.out 3).trans rfl)) | (go_at_call 22; ((with_reducible refine (eqG_calls _ _ _ _ _ _ _ (Kd.C_below HR3.out HB.out) HC3.out (Kd.C_below HS3.out HB.out) HD3.out).mono ?_); rintro e w5 ⟨rfl, hb⟩; have n0_ := Aside0.mk (below_step HB.out hb); have n1_ := Aside0.mk (blk_below BX0.out hb); have n2_ := Aside0.mk (blk_below BX1.out hb); clear HB BX0 BX1 p0 q0 p1 q1 p2 q2 p3 q3; have HB := n0_; have BX0 := n1_; have BX1 := n2_; clear n0_ n1_ n2_ hb; have p0 : w5.cell? ⟨g0, 0, none⟩ = _ := (blk_cell BX0.out 0).trans rfl; have q0 : w5.cell? ⟨g1, 0, none⟩ = _ := (blk_cell BX1.out 0).trans rfl; have p1 : w5.cell? ⟨g0, 1, none⟩ = _ := (blk_cell BX0.out 1).trans rfl; have q1 : w5.cell? ⟨g1, 1, none⟩ = _ := (blk_cell BX1.out 1).trans rfl; have p2 : w5.cell? ⟨g0, 2, none⟩ = _ := (blk_cell BX0.out 2).trans rfl; have q2 : w5.cell? ⟨g1, 2, none⟩ = _ := (blk_cell BX1.out 2).trans rfl; have p3 : w5.cell? ⟨g0, 3, none⟩ = _ := (blk_cell BX0.out 3).trans rfl; have q3 : w5.cell? ⟨g1, 3, none⟩ = _ := (blk_cell BX1.out 3).trans rfl)))
          go_ret
          exact ⟨by rw [HE.out]; rfl, (by repeat (with_reducible first | exact HB.out | apply below_alloc | apply pw_below_drewN | (refine Below.setCell ?_ HB.out.size _)))⟩
end Go.Proofs.Ythlhlgomnjeenab.Rm
