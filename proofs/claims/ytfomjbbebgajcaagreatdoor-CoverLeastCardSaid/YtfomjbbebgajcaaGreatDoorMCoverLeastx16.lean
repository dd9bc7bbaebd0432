-- Printed by a program of this session's own (wip/mkprint.py): contracts of the functions that a law uses. Not trusted: Lean checks it.
import Derived.Test.YtfomjbbebgajcaaGreatDoorMCoverLeastx0
import Derived.Test.YtfomjbbebgajcaaGreatDoorMCoverLeastx13
import Derived.Test.YtfomjbbebgajcaaGreatDoorMCoverLeastx14
import Derived.Test.YtfomjbbebgajcaaGreatDoorMCoverLeastx15
namespace Go.Proofs.YtfomjbbebgajcaaGreatDoor.MCoverLeast
open Go.RowKit Go.Proofs.YtfomjbbebgajcaaGreatDoor.Giv Go.Proofs.YtfomjbbebgajcaaGreatDoorW.PrintWords Go.Proofs.YtfomjbbebgajcaaGreatDoorW.PrintLast Go.Proofs.YtfomjbbebgajcaaGreatDoorW.PrintMore
open Go.Proofs.YtfomjbbebgajcaaGreatDoorW.PrintWords renaming below_alloc → ba, below_drew1 → bd, pw_below_drewN → bn
open Go.Proofs.YtfomjbbebgajcaaGreatDoorW.PrintWords.Aside0 renaming mk → am
open Go.Proofs.YtfomjbbebgajcaaGreatDoorW.PrintWords.Kd renaming R_alloc → ra, R_drewN → rn, R_drew → rd
attribute [local go_sem] max2_int min2_int max_two min_two max_three min_three max_four min_four   -- for this text's walks alone
set_option linter.unusedVariables false
set_option linter.unusedSimpArgs false

/-! ### crierref6_Outside: function 61 -/
mutual
def crierref6_Outside.j0 : Nat → ByteArray → ByteArray → List ByteArray → Bool → Int → Option (ByteArray × Bool)
 | 0, _, _, _, _, _ => none
 | k + 1, x0, x1, x6, x7, x8 => (crierref5_Plain.f k x1).bind fun t359 => (if t359 = true then ((crierref6_open.f k x1).bind fun bt360 => (if x7 = true then (crierref6_Outside.l0 k x0 x1 x6 x7 x8 bt360.1 (wrap64 (x8 + 2))) else (crierref6_Outside.j2 k x0 x1 x6 x7 x8 bt360.1))) else (some ((⟨#[]⟩ : ByteArray), false)))
def crierref6_Outside.j2 : Nat → ByteArray → ByteArray → List ByteArray → Bool → Int → List ByteArray → Option (ByteArray × Bool)
 | 0, _, _, _, _, _, _ => none
 | k + 1, x0, x1, x6, x7, x8, x11 => crierref6_Outside.l1 k x0 x1 x6 x7 x8 x11 0
def crierref6_Outside.l1 : Nat → ByteArray → ByteArray → List ByteArray → Bool → Int → List ByteArray → Int → Option (ByteArray × Bool)
 | 0, _, _, _, _, _, _, _ => none
 | k + 1, x0, x1, x6, x7, x8, x11, x14 => if x14 < (x11.length : Int) then (if x14 < (x6.length : Int) then (if 0 ≤ x14 then (if (rdOf ByteArray.empty x6 x14).toList = ([43] : List UInt8) then (if x14 ≥ (x6.length : Int) then (if x7 = true then (crierref6_Outside.j4 k x0 x1 x6 x7 x8 x11 x14 ((rdOf ByteArray.empty x11 x14).toList != ([] : List UInt8))) else (crierref6_Outside.j4 k x0 x1 x6 x7 x8 x11 x14 true)) else (crierref6_Outside.j4 k x0 x1 x6 x7 x8 x11 x14 ((rdOf ByteArray.empty x11 x14).toList != ([] : List UInt8)))) else (crierref6_Outside.j4 k x0 x1 x6 x7 x8 x11 x14 true)) else (none)) else (if x14 ≥ (x6.length : Int) then (if x7 = true then (if 0 ≤ x14 then (crierref6_Outside.j4 k x0 x1 x6 x7 x8 x11 x14 ((rdOf ByteArray.empty x11 x14).toList != ([] : List UInt8))) else (none)) else (crierref6_Outside.j4 k x0 x1 x6 x7 x8 x11 x14 true)) else (if 0 ≤ x14 then (crierref6_Outside.j4 k x0 x1 x6 x7 x8 x11 x14 ((rdOf ByteArray.empty x11 x14).toList != ([] : List UInt8))) else (none)))) else (some ((⟨#[]⟩ : ByteArray), false))
def crierref6_Outside.j4 : Nat → ByteArray → ByteArray → List ByteArray → Bool → Int → List ByteArray → Int → Bool → Option (ByteArray × Bool)
 | 0, _, _, _, _, _, _, _, _ => none
 | k + 1, x0, x1, x6, x7, x8, x11, x14, x128 => if x128 = true then (crierref6_Outside.l1 k x0 x1 x6 x7 x8 x11 (wrap64 (x14 + 1))) else ((crierref6_fill.f k x6 (mx x8 (wrap64 (x14 + 1)))).bind fun t374 => (if 0 ≤ x14 then (if x14 < (t374.length : Int) then ((crierref6_shows.f k (t374.set (x14 : Int).toNat (⟨#[97]⟩ : ByteArray)) x0 x1).bind fun bt378 => (if bt378.2 = true then (some (bt378.1, true)) else (crierref6_Outside.l1 k x0 x1 x6 x7 x8 x11 (wrap64 (x14 + 1))))) else (none)) else (none)))
def crierref6_Outside.l0 : Nat → ByteArray → ByteArray → List ByteArray → Bool → Int → List ByteArray → Int → Option (ByteArray × Bool)
 | 0, _, _, _, _, _, _, _ => none
 | k + 1, x0, x1, x6, x7, x8, x11, x13 => if x13 ≤ (wrap64 ((mx x8 (x11.length : Int)) + 1)) then ((crierref6_fill.f k x6 x13).bind fun t364 => ((crierref6_shows.f k t364 x0 x1).bind fun bt367 => (if bt367.2 = true then (some (bt367.1, true)) else (crierref6_Outside.l0 k x0 x1 x6 x7 x8 x11 (wrap64 (x13 + 1)))))) else (crierref6_Outside.j2 k x0 x1 x6 x7 x8 x11)
end
def crierref6_Outside.f (k : Nat) (a0 : ByteArray) (a1 : ByteArray) : Option (ByteArray × Bool) := (crierref5_Plain.f k a0).bind fun t333 => (if t333 = true then ((crierref6_open.f k a0).bind fun bt334 => ((crierref6_fill.f k bt334.1 (mx (bt334.1.length : Int) 1)).bind fun t338 => ((crierref6_alive.f k t338 (⟨#[]⟩ : ByteArray)).bind fun t341 => ((crierref6_shows.f k t341 a0 a1).bind fun bt344 => (if bt344.2 = true then (some (bt344.1, true)) else ((crierref6_fill.f k bt334.1 (mx (bt334.1.length : Int) 1)).bind fun t346 => ((crierref6_alive.f k t346 (⟨#[97]⟩ : ByteArray)).bind fun t349 => ((crierref6_shows.f k t349 a0 a1).bind fun bt352 => (if bt352.2 = true then (some (bt352.1, true)) else (if bt334.2 = true then ((crierref6_fill.f k bt334.1 (wrap64 ((mx (bt334.1.length : Int) 1) + 1))).bind fun t354 => ((crierref6_shows.f k t354 a0 a1).bind fun bt357 => (if bt357.2 = true then (some (bt357.1, true)) else (crierref6_Outside.j0 k a0 a1 bt334.1 bt334.2 (mx (bt334.1.length : Int) 1))))) else (crierref6_Outside.j0 k a0 a1 bt334.1 bt334.2 (mx (bt334.1.length : Int) 1)))))))))))) else (some ((⟨#[]⟩ : ByteArray), false)))
set_option maxHeartbeats 8000000 in
set_option maxRecDepth 100000 in
theorem crierref6_Outside.calls (k : Nat) (a0 : ByteArray) (a1 : ByteArray) (r1 : ByteArray) (r2 : Bool) (w : World) (h : crierref6_Outside.f k a0 a1 = some (r1, r2)) :
  Calls Tryz.prog 61 #[.string a0, .string a1] w fun e w' => e = .returned (.tuple #[.string r1, .bool r2]) ∧ Below w.heap.size w w' := by
 have HB := am (Below.refl w.heap.size w)
 have H : ((crierref5_Plain.f k a0).bind fun t333 => (if t333 = true then ((crierref6_open.f k a0).bind fun bt334 => ((crierref6_fill.f k bt334.1 (mx (bt334.1.length : Int) 1)).bind fun t338 => ((crierref6_alive.f k t338 (⟨#[]⟩ : ByteArray)).bind fun t341 => ((crierref6_shows.f k t341 a0 a1).bind fun bt344 => (if bt344.2 = true then (some (bt344.1, true)) else ((crierref6_fill.f k bt334.1 (mx (bt334.1.length : Int) 1)).bind fun t346 => ((crierref6_alive.f k t346 (⟨#[97]⟩ : ByteArray)).bind fun t349 => ((crierref6_shows.f k t349 a0 a1).bind fun bt352 => (if bt352.2 = true then (some (bt352.1, true)) else (if bt334.2 = true then ((crierref6_fill.f k bt334.1 (wrap64 ((mx (bt334.1.length : Int) 1) + 1))).bind fun t354 => ((crierref6_shows.f k t354 a0 a1).bind fun bt357 => (if bt357.2 = true then (some (bt357.1, true)) else (crierref6_Outside.j0 k a0 a1 bt334.1 bt334.2 (mx (bt334.1.length : Int) 1))))) else (crierref6_Outside.j0 k a0 a1 bt334.1 bt334.2 (mx (bt334.1.length : Int) 1)))))))))))) else (some ((⟨#[]⟩ : ByteArray), false)))) = some (r1, r2) := h
 clear h
 replace H := Option.bind_eq_some_iff.mp H
 obtain ⟨t333, A30, H⟩ := H
 try dsimp only at H
 have A3 := am A30
 clear A30
 by_cases c4 : t333 = true
 ·subst c4
  rw [if_pos rfl] at H
  replace H := Option.bind_eq_some_iff.mp H
  obtain ⟨⟨t334, t335⟩, A50, H⟩ := H
  try dsimp only at H
  have A5 := am A50
  clear A50
  obtain ⟨ji6, hji6⟩ : ∃ j_ : Int, (mx (t334.length : Int) 1) = j_ := ⟨_, rfl⟩
  replace H : ((crierref6_fill.f k t334 (ji6)).bind fun t338 => ((crierref6_alive.f k t338 (⟨#[]⟩ : ByteArray)).bind fun t341 => ((crierref6_shows.f k t341 a0 a1).bind fun bt344 => (if bt344.2 = true then (some (bt344.1, true)) else ((crierref6_fill.f k t334 (ji6)).bind fun t346 => ((crierref6_alive.f k t346 (⟨#[97]⟩ : ByteArray)).bind fun t349 => ((crierref6_shows.f k t349 a0 a1).bind fun bt352 => (if bt352.2 = true then (some (bt352.1, true)) else (if t335 = true then ((crierref6_fill.f k t334 (wrap64 ((ji6) + 1))).bind fun t354 => ((crierref6_shows.f k t354 a0 a1).bind fun bt357 => (if bt357.2 = true then (some (bt357.1, true)) else (crierref6_Outside.j0 k a0 a1 t334 t335 ji6)))) else (crierref6_Outside.j0 k a0 a1 t334 t335 ji6)))))))))) = some (r1, r2) := by first | (rw [hji6] at H; exact H) | (simp only [hji6] at H ⊢; exact H)
  (try rw [hji6] at A3)
  (try rw [hji6] at A5)
  (try (have hji6l : 1 ≤ ji6 := by (rw [← hji6]; unfold mx; (repeat' split) <;> omega)))
  (try (have hji6m : 0 ≤ ji6 := by omega))
  have hji6_ : (if (t334.length : Int) < 1 then 1 else (t334.length : Int)) = ji6 := hji6
  replace H := Option.bind_eq_some_iff.mp H
  obtain ⟨t338, A70, H⟩ := H
  try dsimp only at H
  have A7 := am A70
  clear A70
  replace H := Option.bind_eq_some_iff.mp H
  obtain ⟨t341, A80, H⟩ := H
  try dsimp only at H
  have A8 := am A80
  clear A80
  replace H := Option.bind_eq_some_iff.mp H
  obtain ⟨⟨t344, t345⟩, A90, H⟩ := H
  try dsimp only at H
  have A9 := am A90
  clear A90
  by_cases c10 : t345 = true
  ·subst c10
   rw [if_pos rfl] at H
   simp only [Option.some.injEq, Prod.mk.injEq] at H
   obtain ⟨rfl, rfl⟩ := H
   go_enter Tryz.func61, Tryz.ntmps61
   go_wp2_with (first | ((with_reducible refine gate_callee (f := 96) rfl ?_); refine goesL_ (some 17) rfl rfl Tryz.func96 (by kernel_rfl) rfl #[.string a0] rfl (by (try simp only [List.map_toArray, List.map_cons, List.map_nil]); first | done | rfl | (simp only [List.length_drop, List.length_take]; rfl)) ?_; (with_reducible refine (crierref5_Plain.calls k a0 true _ A3.out).mono ?_); rintro e w11 ⟨rfl, hb⟩; refine ⟨_, rfl, ?_⟩; have n0_ := am (below_step (by repeat (with_reducible first | exact HB.out | apply ba | apply bn | apply bd)) hb); clear HB; have HB := n0_; clear n0_; (try clear hb)) | ((with_reducible refine gate_callee (f := 97) rfl ?_); refine goesL_ (some 21) rfl rfl Tryz.func97 (by kernel_rfl) rfl #[.string a0] rfl (by (try simp only [List.map_toArray, List.map_cons, List.map_nil]); first | done | rfl | (simp only [List.length_drop, List.length_take]; rfl)) ?_; (with_reducible refine (crierref6_open.calls k a0 t334 t335 _ A5.out).mono ?_); rintro e w12 ⟨v336, rfl, ho0, hb⟩; refine ⟨_, rfl, ?_⟩; have n0_ := am (Kd.R_lower ho0 (below_size (by repeat (with_reducible first | exact HB.out | apply ba | apply bn | apply bd)))); have n1_ := am (below_step (by repeat (with_reducible first | exact HB.out | apply ba | apply bn | apply bd)) hb); clear HB; have HO337 := n0_; have HB := n1_; clear n0_ n1_; (try clear hb); (try clear ho0); obtain ⟨Ao13, co13, eo13⟩ := Kd.R_slice HO337.out; subst eo13) | ((with_reducible refine gate_callee (f := 100) rfl ?_); refine goesL_ (some 30) rfl rfl Tryz.func100 (by kernel_rfl) rfl #[.slice Ao13 t334.length co13, .int .i64 ji6] rfl (by (try simp only [List.map_toArray, List.map_cons, List.map_nil]); first | done | (simp only [hji6]; rfl) | rfl | (simp only [List.length_drop, List.length_take]; rfl)) ?_; (with_reducible refine (crierref6_fill.calls k _ _ t334 ji6 t338 _ ?side1 ?side2 A7.out).mono ?_); (case side1 => repeat (first | exact (Kd.R_reads' HO337.out).2.2 | (with_reducible refine Kd.C_alloc ?_ _) | (with_reducible refine Kd.C_drewN ?_ _) | (with_reducible refine Kd.C_drew ?_))); (case side2 => exact (Kd.R_reads' HO337.out).2.1); rintro e w14 ⟨v339, rfl, ho0, hb⟩; refine ⟨_, rfl, ?_⟩; have n0_ := am (Kd.R_elder' (by (with_reducible repeat (first | apply ra | apply rn | apply rd)); exact HO337.out) (Kd.R_base ho0) hb); have n1_ := am (Kd.R_lower (Kd.R_new' ho0 (Kd.R_lt (by (with_reducible repeat (first | apply ra | apply rn | apply rd)); exact HO337.out))) (below_size (by repeat (with_reducible first | exact HB.out | apply ba | apply bn | apply bd)))); have n2_ := am (below_step (by repeat (with_reducible first | exact HB.out | apply ba | apply bn | apply bd)) hb); clear HO337; clear HB; have HO337 := n0_; have HO340 := n1_; have HB := n2_; clear n0_ n1_ n2_; (try clear hb); (try clear ho0); obtain ⟨Ao15, co15, eo15⟩ := Kd.R_slice HO340.out; subst eo15) | ((with_reducible refine gate_callee (f := 99) rfl ?_); refine goesL_ (some 31) rfl rfl Tryz.func99 (by kernel_rfl) rfl #[.slice Ao15 t338.length co15, .string (⟨#[]⟩ : ByteArray)] rfl (by (try simp only [List.map_toArray, List.map_cons, List.map_nil]); first | done | rfl | (simp only [List.length_drop, List.length_take]; rfl)) ?_; (with_reducible refine (crierref6_alive.calls k (fun k_ => some k_ = (.slice Ao15 t338.length co15 : Value).ownBlock) (.slice Ao15 t338.length co15) t338 (⟨#[]⟩ : ByteArray) t341 w _ ?side1 ?side2 A8.out).mono ?_); (case side1 => repeat (first | (with_reducible first | exact HB.out | apply ba | apply bn | apply bd) | exact HB.out)); (case side2 => exact Kd.R_tight rfl HO340.out); rintro e w16 ⟨v342, rfl, ho0, hb, hkp⟩; refine ⟨_, rfl, ?_⟩; have n0_ := am (Kd.R_mono (ok' := fun k_ => some k_ ≠ (v342 : Value).ownBlock) (Kd.R_keptB (HO337.out) hkp (fun k_ hk_ hs_ => (hk_.2) hs_)) (fun k_ hk_ => fun e_ => Or.elim (ho0.1 k_ e_.symm) (fun hs_ => hk_.2.1 hs_) (fun hn_ => Nat.not_le.2 hk_.2.2 hn_))); have n1_ := am (Kd.R_mono (ok' := fun k_ => some k_ ≠ (.slice Ao13 t334.length co13 : Value).ownBlock) ho0 (fun k_ hk_ => Or.elim hk_ (fun hs_ => fun e_ => (((HO337.out).1 k_ e_.symm).2) hs_) (fun hn_ => (Kd.fresh' (Kd.R_lt (by (with_reducible repeat (first | apply ra | apply rn | apply rd)); exact HO337.out)) k_ hn_)))); have n2_ := am (hb); clear HO337; clear HB; clear HO340; have HO337 := n0_; have HO343 := n1_; have HB := n2_; clear n0_ n1_ n2_; (try clear hb); (try clear hkp); (try clear ho0); obtain ⟨Ao17, co17, eo17⟩ := Kd.R_slice HO343.out; subst eo17) | ((with_reducible refine gate_callee (f := 98) rfl ?_); refine goesL_ (some 34) rfl rfl Tryz.func98 (by kernel_rfl) rfl #[.slice Ao17 t341.length co17, .string a0, .string a1] rfl (by (try simp only [List.map_toArray, List.map_cons, List.map_nil]); first | done | rfl | (simp only [List.length_drop, List.length_take]; rfl)) ?_; (with_reducible refine (crierref6_shows.calls k _ _ t341 a0 a1 t344 true _ ?side1 ?side2 A9.out).mono ?_); (case side1 => repeat (first | exact (Kd.R_reads' HO343.out).2.2 | (with_reducible refine Kd.C_alloc ?_ _) | (with_reducible refine Kd.C_drewN ?_ _) | (with_reducible refine Kd.C_drew ?_))); (case side2 => exact (Kd.R_reads' HO343.out).2.1); rintro e w18 ⟨rfl, hb⟩; refine ⟨_, rfl, ?_⟩; have n0_ := am (Kd.R_below (by (with_reducible repeat (first | apply ra | apply rn | apply rd)); exact HO337.out) hb); have n1_ := am (Kd.R_below (by (with_reducible repeat (first | apply ra | apply rn | apply rd)); exact HO343.out) hb); have n2_ := am (below_step (by repeat (with_reducible first | exact HB.out | apply ba | apply bn | apply bd)) hb); clear HO337; clear HO343; clear HB; have HO337 := n0_; have HO343 := n1_; have HB := n2_; clear n0_ n1_ n2_; (try clear hb)))
   go_ret2
   exact ⟨by first | rfl | (simp [errW_none, errW_some] <;> rfl) | (simp only [← hji6]; first | rfl | (simp [errW_none, errW_some] <;> rfl)) | (simp [*, errW_none, errW_some] <;> rfl), by repeat (with_reducible first | exact HB.out | apply ba | apply bn | apply bd)⟩
  ·replace c10 := Bool.eq_false_iff.mpr c10
   subst c10
   rw [if_neg (show ¬ (false = true) by decide)] at H
   replace H := Option.bind_eq_some_iff.mp H
   obtain ⟨t346, A190, H⟩ := H
   try dsimp only at H
   have A19 := am A190
   clear A190
   replace H := Option.bind_eq_some_iff.mp H
   obtain ⟨t349, A200, H⟩ := H
   try dsimp only at H
   have A20 := am A200
   clear A200
   replace H := Option.bind_eq_some_iff.mp H
   obtain ⟨⟨t352, t353⟩, A210, H⟩ := H
   try dsimp only at H
   have A21 := am A210
   clear A210
   by_cases c22 : t353 = true
   ·subst c22
    rw [if_pos rfl] at H
    simp only [Option.some.injEq, Prod.mk.injEq] at H
    obtain ⟨rfl, rfl⟩ := H
    go_enter Tryz.func61, Tryz.ntmps61
    go_wp2_with (first | ((with_reducible refine gate_callee (f := 96) rfl ?_); refine goesL_ (some 17) rfl rfl Tryz.func96 (by kernel_rfl) rfl #[.string a0] rfl (by (try simp only [List.map_toArray, List.map_cons, List.map_nil]); first | done | rfl | (simp only [List.length_drop, List.length_take]; rfl)) ?_; (with_reducible refine (crierref5_Plain.calls k a0 true _ A3.out).mono ?_); rintro e w23 ⟨rfl, hb⟩; refine ⟨_, rfl, ?_⟩; have n0_ := am (below_step (by repeat (with_reducible first | exact HB.out | apply ba | apply bn | apply bd)) hb); clear HB; have HB := n0_; clear n0_; (try clear hb)) | ((with_reducible refine gate_callee (f := 97) rfl ?_); refine goesL_ (some 21) rfl rfl Tryz.func97 (by kernel_rfl) rfl #[.string a0] rfl (by (try simp only [List.map_toArray, List.map_cons, List.map_nil]); first | done | rfl | (simp only [List.length_drop, List.length_take]; rfl)) ?_; (with_reducible refine (crierref6_open.calls k a0 t334 t335 _ A5.out).mono ?_); rintro e w24 ⟨v336, rfl, ho0, hb⟩; refine ⟨_, rfl, ?_⟩; have n0_ := am (Kd.R_lower ho0 (below_size (by repeat (with_reducible first | exact HB.out | apply ba | apply bn | apply bd)))); have n1_ := am (below_step (by repeat (with_reducible first | exact HB.out | apply ba | apply bn | apply bd)) hb); clear HB; have HO337 := n0_; have HB := n1_; clear n0_ n1_; (try clear hb); (try clear ho0); obtain ⟨Ao25, co25, eo25⟩ := Kd.R_slice HO337.out; subst eo25) | ((with_reducible refine gate_callee (f := 100) rfl ?_); refine goesL_ (some 30) rfl rfl Tryz.func100 (by kernel_rfl) rfl #[.slice Ao25 t334.length co25, .int .i64 ji6] rfl (by (try simp only [List.map_toArray, List.map_cons, List.map_nil]); first | done | (simp only [hji6]; rfl) | rfl | (simp only [List.length_drop, List.length_take]; rfl)) ?_; (with_reducible refine (crierref6_fill.calls k _ _ t334 ji6 t338 _ ?side1 ?side2 A7.out).mono ?_); (case side1 => repeat (first | exact (Kd.R_reads' HO337.out).2.2 | (with_reducible refine Kd.C_alloc ?_ _) | (with_reducible refine Kd.C_drewN ?_ _) | (with_reducible refine Kd.C_drew ?_))); (case side2 => exact (Kd.R_reads' HO337.out).2.1); rintro e w26 ⟨v339, rfl, ho0, hb⟩; refine ⟨_, rfl, ?_⟩; have n0_ := am (Kd.R_elder' (by (with_reducible repeat (first | apply ra | apply rn | apply rd)); exact HO337.out) (Kd.R_base ho0) hb); have n1_ := am (Kd.R_lower (Kd.R_new' ho0 (Kd.R_lt (by (with_reducible repeat (first | apply ra | apply rn | apply rd)); exact HO337.out))) (below_size (by repeat (with_reducible first | exact HB.out | apply ba | apply bn | apply bd)))); have n2_ := am (below_step (by repeat (with_reducible first | exact HB.out | apply ba | apply bn | apply bd)) hb); clear HO337; clear HB; have HO337 := n0_; have HO340 := n1_; have HB := n2_; clear n0_ n1_ n2_; (try clear hb); (try clear ho0); obtain ⟨Ao27, co27, eo27⟩ := Kd.R_slice HO340.out; subst eo27) | ((with_reducible refine gate_callee (f := 99) rfl ?_); refine goesL_ (some 31) rfl rfl Tryz.func99 (by kernel_rfl) rfl #[.slice Ao27 t338.length co27, .string (⟨#[]⟩ : ByteArray)] rfl (by (try simp only [List.map_toArray, List.map_cons, List.map_nil]); first | done | rfl | (simp only [List.length_drop, List.length_take]; rfl)) ?_; (with_reducible refine (crierref6_alive.calls k (fun k_ => some k_ = (.slice Ao27 t338.length co27 : Value).ownBlock) (.slice Ao27 t338.length co27) t338 (⟨#[]⟩ : ByteArray) t341 w _ ?side1 ?side2 A8.out).mono ?_); (case side1 => repeat (first | (with_reducible first | exact HB.out | apply ba | apply bn | apply bd) | exact HB.out)); (case side2 => exact Kd.R_tight rfl HO340.out); rintro e w28 ⟨v342, rfl, ho0, hb, hkp⟩; refine ⟨_, rfl, ?_⟩; have n0_ := am (Kd.R_mono (ok' := fun k_ => some k_ ≠ (v342 : Value).ownBlock) (Kd.R_keptB (HO337.out) hkp (fun k_ hk_ hs_ => (hk_.2) hs_)) (fun k_ hk_ => fun e_ => Or.elim (ho0.1 k_ e_.symm) (fun hs_ => hk_.2.1 hs_) (fun hn_ => Nat.not_le.2 hk_.2.2 hn_))); have n1_ := am (Kd.R_mono (ok' := fun k_ => some k_ ≠ (.slice Ao25 t334.length co25 : Value).ownBlock) ho0 (fun k_ hk_ => Or.elim hk_ (fun hs_ => fun e_ => (((HO337.out).1 k_ e_.symm).2) hs_) (fun hn_ => (Kd.fresh' (Kd.R_lt (by (with_reducible repeat (first | apply ra | apply rn | apply rd)); exact HO337.out)) k_ hn_)))); have n2_ := am (hb); clear HO337; clear HB; clear HO340; have HO337 := n0_; have HO343 := n1_; have HB := n2_; clear n0_ n1_ n2_; (try clear hb); (try clear hkp); (try clear ho0); obtain ⟨Ao29, co29, eo29⟩ := Kd.R_slice HO343.out; subst eo29) | ((with_reducible refine gate_callee (f := 98) rfl ?_); refine goesL_ (some 34) rfl rfl Tryz.func98 (by kernel_rfl) rfl #[.slice Ao29 t341.length co29, .string a0, .string a1] rfl (by (try simp only [List.map_toArray, List.map_cons, List.map_nil]); first | done | rfl | (simp only [List.length_drop, List.length_take]; rfl)) ?_; (with_reducible refine (crierref6_shows.calls k _ _ t341 a0 a1 t344 false _ ?side1 ?side2 A9.out).mono ?_); (case side1 => repeat (first | exact (Kd.R_reads' HO343.out).2.2 | (with_reducible refine Kd.C_alloc ?_ _) | (with_reducible refine Kd.C_drewN ?_ _) | (with_reducible refine Kd.C_drew ?_))); (case side2 => exact (Kd.R_reads' HO343.out).2.1); rintro e w30 ⟨rfl, hb⟩; refine ⟨_, rfl, ?_⟩; have n0_ := am (Kd.R_below (by (with_reducible repeat (first | apply ra | apply rn | apply rd)); exact HO337.out) hb); have n1_ := am (Kd.R_below (by (with_reducible repeat (first | apply ra | apply rn | apply rd)); exact HO343.out) hb); have n2_ := am (below_step (by repeat (with_reducible first | exact HB.out | apply ba | apply bn | apply bd)) hb); clear HO337; clear HO343; clear HB; have HO337 := n0_; have HO343 := n1_; have HB := n2_; clear n0_ n1_ n2_; (try clear hb)) | ((with_reducible refine gate_callee (f := 100) rfl ?_); refine goesL_ (some 42) rfl rfl Tryz.func100 (by kernel_rfl) rfl #[.slice Ao25 t334.length co25, .int .i64 ji6] rfl (by (try simp only [List.map_toArray, List.map_cons, List.map_nil]); first | done | (simp only [hji6]; rfl) | rfl | (simp only [List.length_drop, List.length_take]; rfl)) ?_; (with_reducible refine (crierref6_fill.calls k _ _ t334 ji6 t346 _ ?side1 ?side2 A19.out).mono ?_); (case side1 => repeat (first | exact (Kd.R_reads' HO337.out).2.2 | (with_reducible refine Kd.C_alloc ?_ _) | (with_reducible refine Kd.C_drewN ?_ _) | (with_reducible refine Kd.C_drew ?_))); (case side2 => exact (Kd.R_reads' HO337.out).2.1); rintro e w31 ⟨v347, rfl, ho0, hb⟩; refine ⟨_, rfl, ?_⟩; have n0_ := am (Kd.R_elder' (by (with_reducible repeat (first | apply ra | apply rn | apply rd)); exact HO337.out) (Kd.R_base ho0) hb); have n1_ := am (Kd.R_elder' (by (with_reducible repeat (first | apply ra | apply rn | apply rd)); exact HO343.out) (Kd.R_base ho0) hb); have n2_ := am (Kd.R_lower (Kd.R_new' (Kd.R_new' ho0 (Kd.R_lt (by (with_reducible repeat (first | apply ra | apply rn | apply rd)); exact HO337.out))) (Kd.R_lt (by (with_reducible repeat (first | apply ra | apply rn | apply rd)); exact HO343.out))) (below_size (by repeat (with_reducible first | exact HB.out | apply ba | apply bn | apply bd)))); have n3_ := am (below_step (by repeat (with_reducible first | exact HB.out | apply ba | apply bn | apply bd)) hb); clear HO337; clear HO343; clear HB; have HO337 := n0_; have HO343 := n1_; have HO348 := n2_; have HB := n3_; clear n0_ n1_ n2_ n3_; (try clear hb); (try clear ho0); obtain ⟨Ao32, co32, eo32⟩ := Kd.R_slice HO348.out; subst eo32) | ((with_reducible refine gate_callee (f := 99) rfl ?_); refine goesL_ (some 43) rfl rfl Tryz.func99 (by kernel_rfl) rfl #[.slice Ao32 t346.length co32, .string (⟨#[97]⟩ : ByteArray)] rfl (by (try simp only [List.map_toArray, List.map_cons, List.map_nil]); first | done | rfl | (simp only [List.length_drop, List.length_take]; rfl)) ?_; (with_reducible refine (crierref6_alive.calls k (fun k_ => some k_ = (.slice Ao32 t346.length co32 : Value).ownBlock) (.slice Ao32 t346.length co32) t346 (⟨#[97]⟩ : ByteArray) t349 w _ ?side1 ?side2 A20.out).mono ?_); (case side1 => repeat (first | (with_reducible first | exact HB.out | apply ba | apply bn | apply bd) | exact HB.out)); (case side2 => exact Kd.R_tight rfl HO348.out); rintro e w33 ⟨v350, rfl, ho0, hb, hkp⟩; refine ⟨_, rfl, ?_⟩; have n0_ := am (Kd.R_mono (ok' := fun k_ => some k_ ≠ (.slice Ao29 t341.length co29 : Value).ownBlock ∧ some k_ ≠ (v350 : Value).ownBlock) (Kd.R_keptB (HO337.out) hkp (fun k_ hk_ hs_ => (hk_.2) hs_)) (fun k_ hk_ => ⟨hk_.1.1, fun e_ => Or.elim (ho0.1 k_ e_.symm) (fun hs_ => hk_.2.1 hs_) (fun hn_ => Nat.not_le.2 hk_.2.2 hn_)⟩)); have n1_ := am (Kd.R_mono (ok' := fun k_ => some k_ ≠ (.slice Ao25 t334.length co25 : Value).ownBlock ∧ some k_ ≠ (v350 : Value).ownBlock) (Kd.R_keptB (HO343.out) hkp (fun k_ hk_ hs_ => (hk_.2) hs_)) (fun k_ hk_ => ⟨hk_.1.1, fun e_ => Or.elim (ho0.1 k_ e_.symm) (fun hs_ => hk_.2.1 hs_) (fun hn_ => Nat.not_le.2 hk_.2.2 hn_)⟩)); have n2_ := am (Kd.R_mono (ok' := fun k_ => some k_ ≠ (.slice Ao25 t334.length co25 : Value).ownBlock ∧ some k_ ≠ (.slice Ao29 t341.length co29 : Value).ownBlock) ho0 (fun k_ hk_ => ⟨Or.elim hk_ (fun hs_ => fun e_ => (((HO337.out).1 k_ e_.symm).2) hs_) (fun hn_ => (Kd.fresh' (Kd.R_lt (by (with_reducible repeat (first | apply ra | apply rn | apply rd)); exact HO337.out)) k_ hn_)), Or.elim hk_ (fun hs_ => fun e_ => (((HO343.out).1 k_ e_.symm).2) hs_) (fun hn_ => (Kd.fresh' (Kd.R_lt (by (with_reducible repeat (first | apply ra | apply rn | apply rd)); exact HO343.out)) k_ hn_))⟩)); have n3_ := am (hb); clear HO337; clear HO343; clear HB; clear HO348; have HO337 := n0_; have HO343 := n1_; have HO351 := n2_; have HB := n3_; clear n0_ n1_ n2_ n3_; (try clear hb); (try clear hkp); (try clear ho0); obtain ⟨Ao34, co34, eo34⟩ := Kd.R_slice HO351.out; subst eo34) | ((with_reducible refine gate_callee (f := 98) rfl ?_); refine goesL_ (some 46) rfl rfl Tryz.func98 (by kernel_rfl) rfl #[.slice Ao34 t349.length co34, .string a0, .string a1] rfl (by (try simp only [List.map_toArray, List.map_cons, List.map_nil]); first | done | rfl | (simp only [List.length_drop, List.length_take]; rfl)) ?_; (with_reducible refine (crierref6_shows.calls k _ _ t349 a0 a1 t352 true _ ?side1 ?side2 A21.out).mono ?_); (case side1 => repeat (first | exact (Kd.R_reads' HO351.out).2.2 | (with_reducible refine Kd.C_alloc ?_ _) | (with_reducible refine Kd.C_drewN ?_ _) | (with_reducible refine Kd.C_drew ?_))); (case side2 => exact (Kd.R_reads' HO351.out).2.1); rintro e w35 ⟨rfl, hb⟩; refine ⟨_, rfl, ?_⟩; have n0_ := am (Kd.R_below (by (with_reducible repeat (first | apply ra | apply rn | apply rd)); exact HO337.out) hb); have n1_ := am (Kd.R_below (by (with_reducible repeat (first | apply ra | apply rn | apply rd)); exact HO343.out) hb); have n2_ := am (Kd.R_below (by (with_reducible repeat (first | apply ra | apply rn | apply rd)); exact HO351.out) hb); have n3_ := am (below_step (by repeat (with_reducible first | exact HB.out | apply ba | apply bn | apply bd)) hb); clear HO337; clear HO343; clear HO351; clear HB; have HO337 := n0_; have HO343 := n1_; have HO351 := n2_; have HB := n3_; clear n0_ n1_ n2_ n3_; (try clear hb)))
    go_ret2
    exact ⟨by first | rfl | (simp [errW_none, errW_some] <;> rfl) | (simp only [← hji6]; first | rfl | (simp [errW_none, errW_some] <;> rfl)) | (simp [*, errW_none, errW_some] <;> rfl), by repeat (with_reducible first | exact HB.out | apply ba | apply bn | apply bd)⟩
   ·replace c22 := Bool.eq_false_iff.mpr c22
    subst c22
    rw [if_neg (show ¬ (false = true) by decide)] at H
    have HC36 := am H
    clear H
    go_enter Tryz.func61, Tryz.ntmps61
    go_upto_if 51 with (first | ((with_reducible refine gate_callee (f := 96) rfl ?_); refine goesL_ (some 17) rfl rfl Tryz.func96 (by kernel_rfl) rfl #[.string a0] rfl (by (try simp only [List.map_toArray, List.map_cons, List.map_nil]); first | done | rfl | (simp only [List.length_drop, List.length_take]; rfl)) ?_; (with_reducible refine (crierref5_Plain.calls k a0 true _ A3.out).mono ?_); rintro e w37 ⟨rfl, hb⟩; refine ⟨_, rfl, ?_⟩; have n0_ := am (below_step (by repeat (with_reducible first | exact HB.out | apply ba | apply bn | apply bd)) hb); clear HB; have HB := n0_; clear n0_; (try clear hb)) | ((with_reducible refine gate_callee (f := 97) rfl ?_); refine goesL_ (some 21) rfl rfl Tryz.func97 (by kernel_rfl) rfl #[.string a0] rfl (by (try simp only [List.map_toArray, List.map_cons, List.map_nil]); first | done | rfl | (simp only [List.length_drop, List.length_take]; rfl)) ?_; (with_reducible refine (crierref6_open.calls k a0 t334 t335 _ A5.out).mono ?_); rintro e w38 ⟨v336, rfl, ho0, hb⟩; refine ⟨_, rfl, ?_⟩; have n0_ := am (Kd.R_lower ho0 (below_size (by repeat (with_reducible first | exact HB.out | apply ba | apply bn | apply bd)))); have n1_ := am (below_step (by repeat (with_reducible first | exact HB.out | apply ba | apply bn | apply bd)) hb); clear HB; have HO337 := n0_; have HB := n1_; clear n0_ n1_; (try clear hb); (try clear ho0); obtain ⟨Ao39, co39, eo39⟩ := Kd.R_slice HO337.out; subst eo39) | ((with_reducible refine gate_callee (f := 100) rfl ?_); refine goesL_ (some 30) rfl rfl Tryz.func100 (by kernel_rfl) rfl #[.slice Ao39 t334.length co39, .int .i64 ji6] rfl (by (try simp only [List.map_toArray, List.map_cons, List.map_nil]); first | done | (simp only [hji6]; rfl) | rfl | (simp only [List.length_drop, List.length_take]; rfl)) ?_; (with_reducible refine (crierref6_fill.calls k _ _ t334 ji6 t338 _ ?side1 ?side2 A7.out).mono ?_); (case side1 => repeat (first | exact (Kd.R_reads' HO337.out).2.2 | (with_reducible refine Kd.C_alloc ?_ _) | (with_reducible refine Kd.C_drewN ?_ _) | (with_reducible refine Kd.C_drew ?_))); (case side2 => exact (Kd.R_reads' HO337.out).2.1); rintro e w40 ⟨v339, rfl, ho0, hb⟩; refine ⟨_, rfl, ?_⟩; have n0_ := am (Kd.R_elder' (by (with_reducible repeat (first | apply ra | apply rn | apply rd)); exact HO337.out) (Kd.R_base ho0) hb); have n1_ := am (Kd.R_lower (Kd.R_new' ho0 (Kd.R_lt (by (with_reducible repeat (first | apply ra | apply rn | apply rd)); exact HO337.out))) (below_size (by repeat (with_reducible first | exact HB.out | apply ba | apply bn | apply bd)))); have n2_ := am (below_step (by repeat (with_reducible first | exact HB.out | apply ba | apply bn | apply bd)) hb); clear HO337; clear HB; have HO337 := n0_; have HO340 := n1_; have HB := n2_; clear n0_ n1_ n2_; (try clear hb); (try clear ho0); obtain ⟨Ao41, co41, eo41⟩ := Kd.R_slice HO340.out; subst eo41) | ((with_reducible refine gate_callee (f := 99) rfl ?_); refine goesL_ (some 31) rfl rfl Tryz.func99 (by kernel_rfl) rfl #[.slice Ao41 t338.length co41, .string (⟨#[]⟩ : ByteArray)] rfl (by (try simp only [List.map_toArray, List.map_cons, List.map_nil]); first | done | rfl | (simp only [List.length_drop, List.length_take]; rfl)) ?_; (with_reducible refine (crierref6_alive.calls k (fun k_ => some k_ = (.slice Ao41 t338.length co41 : Value).ownBlock) (.slice Ao41 t338.length co41) t338 (⟨#[]⟩ : ByteArray) t341 w _ ?side1 ?side2 A8.out).mono ?_); (case side1 => repeat (first | (with_reducible first | exact HB.out | apply ba | apply bn | apply bd) | exact HB.out)); (case side2 => exact Kd.R_tight rfl HO340.out); rintro e w42 ⟨v342, rfl, ho0, hb, hkp⟩; refine ⟨_, rfl, ?_⟩; have n0_ := am (Kd.R_mono (ok' := fun k_ => some k_ ≠ (v342 : Value).ownBlock) (Kd.R_keptB (HO337.out) hkp (fun k_ hk_ hs_ => (hk_.2) hs_)) (fun k_ hk_ => fun e_ => Or.elim (ho0.1 k_ e_.symm) (fun hs_ => hk_.2.1 hs_) (fun hn_ => Nat.not_le.2 hk_.2.2 hn_))); have n1_ := am (Kd.R_mono (ok' := fun k_ => some k_ ≠ (.slice Ao39 t334.length co39 : Value).ownBlock) ho0 (fun k_ hk_ => Or.elim hk_ (fun hs_ => fun e_ => (((HO337.out).1 k_ e_.symm).2) hs_) (fun hn_ => (Kd.fresh' (Kd.R_lt (by (with_reducible repeat (first | apply ra | apply rn | apply rd)); exact HO337.out)) k_ hn_)))); have n2_ := am (hb); clear HO337; clear HB; clear HO340; have HO337 := n0_; have HO343 := n1_; have HB := n2_; clear n0_ n1_ n2_; (try clear hb); (try clear hkp); (try clear ho0); obtain ⟨Ao43, co43, eo43⟩ := Kd.R_slice HO343.out; subst eo43) | ((with_reducible refine gate_callee (f := 98) rfl ?_); refine goesL_ (some 34) rfl rfl Tryz.func98 (by kernel_rfl) rfl #[.slice Ao43 t341.length co43, .string a0, .string a1] rfl (by (try simp only [List.map_toArray, List.map_cons, List.map_nil]); first | done | rfl | (simp only [List.length_drop, List.length_take]; rfl)) ?_; (with_reducible refine (crierref6_shows.calls k _ _ t341 a0 a1 t344 false _ ?side1 ?side2 A9.out).mono ?_); (case side1 => repeat (first | exact (Kd.R_reads' HO343.out).2.2 | (with_reducible refine Kd.C_alloc ?_ _) | (with_reducible refine Kd.C_drewN ?_ _) | (with_reducible refine Kd.C_drew ?_))); (case side2 => exact (Kd.R_reads' HO343.out).2.1); rintro e w44 ⟨rfl, hb⟩; refine ⟨_, rfl, ?_⟩; have n0_ := am (Kd.R_below (by (with_reducible repeat (first | apply ra | apply rn | apply rd)); exact HO337.out) hb); have n1_ := am (Kd.R_below (by (with_reducible repeat (first | apply ra | apply rn | apply rd)); exact HO343.out) hb); have n2_ := am (below_step (by repeat (with_reducible first | exact HB.out | apply ba | apply bn | apply bd)) hb); clear HO337; clear HO343; clear HB; have HO337 := n0_; have HO343 := n1_; have HB := n2_; clear n0_ n1_ n2_; (try clear hb)) | ((with_reducible refine gate_callee (f := 100) rfl ?_); refine goesL_ (some 42) rfl rfl Tryz.func100 (by kernel_rfl) rfl #[.slice Ao39 t334.length co39, .int .i64 ji6] rfl (by (try simp only [List.map_toArray, List.map_cons, List.map_nil]); first | done | (simp only [hji6]; rfl) | rfl | (simp only [List.length_drop, List.length_take]; rfl)) ?_; (with_reducible refine (crierref6_fill.calls k _ _ t334 ji6 t346 _ ?side1 ?side2 A19.out).mono ?_); (case side1 => repeat (first | exact (Kd.R_reads' HO337.out).2.2 | (with_reducible refine Kd.C_alloc ?_ _) | (with_reducible refine Kd.C_drewN ?_ _) | (with_reducible refine Kd.C_drew ?_))); (case side2 => exact (Kd.R_reads' HO337.out).2.1); rintro e w45 ⟨v347, rfl, ho0, hb⟩; refine ⟨_, rfl, ?_⟩; have n0_ := am (Kd.R_elder' (by (with_reducible repeat (first | apply ra | apply rn | apply rd)); exact HO337.out) (Kd.R_base ho0) hb); have n1_ := am (Kd.R_elder' (by (with_reducible repeat (first | apply ra | apply rn | apply rd)); exact HO343.out) (Kd.R_base ho0) hb); have n2_ := am (Kd.R_lower (Kd.R_new' (Kd.R_new' ho0 (Kd.R_lt (by (with_reducible repeat (first | apply ra | apply rn | apply rd)); exact HO337.out))) (Kd.R_lt (by (with_reducible repeat (first | apply ra | apply rn | apply rd)); exact HO343.out))) (below_size (by repeat (with_reducible first | exact HB.out | apply ba | apply bn | apply bd)))); have n3_ := am (below_step (by repeat (with_reducible first | exact HB.out | apply ba | apply bn | apply bd)) hb); clear HO337; clear HO343; clear HB; have HO337 := n0_; have HO343 := n1_; have HO348 := n2_; have HB := n3_; clear n0_ n1_ n2_ n3_; (try clear hb); (try clear ho0); obtain ⟨Ao46, co46, eo46⟩ := Kd.R_slice HO348.out; subst eo46) | ((with_reducible refine gate_callee (f := 99) rfl ?_); refine goesL_ (some 43) rfl rfl Tryz.func99 (by kernel_rfl) rfl #[.slice Ao46 t346.length co46, .string (⟨#[97]⟩ : ByteArray)] rfl (by (try simp only [List.map_toArray, List.map_cons, List.map_nil]); first | done | rfl | (simp only [List.length_drop, List.length_take]; rfl)) ?_; (with_reducible refine (crierref6_alive.calls k (fun k_ => some k_ = (.slice Ao46 t346.length co46 : Value).ownBlock) (.slice Ao46 t346.length co46) t346 (⟨#[97]⟩ : ByteArray) t349 w _ ?side1 ?side2 A20.out).mono ?_); (case side1 => repeat (first | (with_reducible first | exact HB.out | apply ba | apply bn | apply bd) | exact HB.out)); (case side2 => exact Kd.R_tight rfl HO348.out); rintro e w47 ⟨v350, rfl, ho0, hb, hkp⟩; refine ⟨_, rfl, ?_⟩; have n0_ := am (Kd.R_mono (ok' := fun k_ => some k_ ≠ (.slice Ao43 t341.length co43 : Value).ownBlock ∧ some k_ ≠ (v350 : Value).ownBlock) (Kd.R_keptB (HO337.out) hkp (fun k_ hk_ hs_ => (hk_.2) hs_)) (fun k_ hk_ => ⟨hk_.1.1, fun e_ => Or.elim (ho0.1 k_ e_.symm) (fun hs_ => hk_.2.1 hs_) (fun hn_ => Nat.not_le.2 hk_.2.2 hn_)⟩)); have n1_ := am (Kd.R_mono (ok' := fun k_ => some k_ ≠ (.slice Ao39 t334.length co39 : Value).ownBlock ∧ some k_ ≠ (v350 : Value).ownBlock) (Kd.R_keptB (HO343.out) hkp (fun k_ hk_ hs_ => (hk_.2) hs_)) (fun k_ hk_ => ⟨hk_.1.1, fun e_ => Or.elim (ho0.1 k_ e_.symm) (fun hs_ => hk_.2.1 hs_) (fun hn_ => Nat.not_le.2 hk_.2.2 hn_)⟩)); have n2_ := am (Kd.R_mono (ok' := fun k_ => some k_ ≠ (.slice Ao39 t334.length co39 : Value).ownBlock ∧ some k_ ≠ (.slice Ao43 t341.length co43 : Value).ownBlock) ho0 (fun k_ hk_ => ⟨Or.elim hk_ (fun hs_ => fun e_ => (((HO337.out).1 k_ e_.symm).2) hs_) (fun hn_ => (Kd.fresh' (Kd.R_lt (by (with_reducible repeat (first | apply ra | apply rn | apply rd)); exact HO337.out)) k_ hn_)), Or.elim hk_ (fun hs_ => fun e_ => (((HO343.out).1 k_ e_.symm).2) hs_) (fun hn_ => (Kd.fresh' (Kd.R_lt (by (with_reducible repeat (first | apply ra | apply rn | apply rd)); exact HO343.out)) k_ hn_))⟩)); have n3_ := am (hb); clear HO337; clear HO343; clear HB; clear HO348; have HO337 := n0_; have HO343 := n1_; have HO351 := n2_; have HB := n3_; clear n0_ n1_ n2_ n3_; (try clear hb); (try clear hkp); (try clear ho0); obtain ⟨Ao48, co48, eo48⟩ := Kd.R_slice HO351.out; subst eo48) | ((with_reducible refine gate_callee (f := 98) rfl ?_); refine goesL_ (some 46) rfl rfl Tryz.func98 (by kernel_rfl) rfl #[.slice Ao48 t349.length co48, .string a0, .string a1] rfl (by (try simp only [List.map_toArray, List.map_cons, List.map_nil]); first | done | rfl | (simp only [List.length_drop, List.length_take]; rfl)) ?_; (with_reducible refine (crierref6_shows.calls k _ _ t349 a0 a1 t352 false _ ?side1 ?side2 A21.out).mono ?_); (case side1 => repeat (first | exact (Kd.R_reads' HO351.out).2.2 | (with_reducible refine Kd.C_alloc ?_ _) | (with_reducible refine Kd.C_drewN ?_ _) | (with_reducible refine Kd.C_drew ?_))); (case side2 => exact (Kd.R_reads' HO351.out).2.1); rintro e w49 ⟨rfl, hb⟩; refine ⟨_, rfl, ?_⟩; have n0_ := am (Kd.R_below (by (with_reducible repeat (first | apply ra | apply rn | apply rd)); exact HO337.out) hb); have n1_ := am (Kd.R_below (by (with_reducible repeat (first | apply ra | apply rn | apply rd)); exact HO343.out) hb); have n2_ := am (Kd.R_below (by (with_reducible repeat (first | apply ra | apply rn | apply rd)); exact HO351.out) hb); have n3_ := am (below_step (by repeat (with_reducible first | exact HB.out | apply ba | apply bn | apply bd)) hb); clear HO337; clear HO343; clear HO351; clear HB; have HO337 := n0_; have HO343 := n1_; have HO351 := n2_; have HB := n3_; clear n0_ n1_ n2_ n3_; (try clear hb)))
    (try simp only [Act.put, List.setIfInBounds_toArray, List.set_cons_zero, List.set_cons_succ])
    go_cut [] (fun wc => ∃ (kq : Nat), Aside0 (crierref6_Outside.j0 kq a0 a1 t334 t335 ji6 = some (r1, r2)) ∧ Aside0 (kq ≤ k) ∧ Aside0 (Kd.R Kd.string 9 wc w.heap.size (fun _ => True) (.slice Ao39 t334.length co39) t334) ∧ Aside0 (Below w.heap.size w wc))
    case first =>
     have H := HC36.out
     clear HC36
     by_cases c50 : t335 = true
     ·subst c50
      rw [if_pos rfl] at H
      replace H := Option.bind_eq_some_iff.mp H
      obtain ⟨t354, A510, H⟩ := H
      try dsimp only at H
      have A51 := am A510
      clear A510
      replace H := Option.bind_eq_some_iff.mp H
      obtain ⟨⟨t357, t358⟩, A520, H⟩ := H
      try dsimp only at H
      have A52 := am A520
      clear A520
      by_cases c53 : t358 = true
      ·subst c53
       rw [if_pos rfl] at H
       simp only [Option.some.injEq, Prod.mk.injEq] at H
       obtain ⟨rfl, rfl⟩ := H
       go_wp2_with (first | ((with_reducible refine gate_callee (f := 100) rfl ?_); refine goesL_ (some 56) rfl rfl Tryz.func100 (by kernel_rfl) rfl #[.slice Ao39 t334.length co39, .int .i64 (wrap64 ((ji6) + 1))] rfl (by (try simp only [List.map_toArray, List.map_cons, List.map_nil]); first | done | (simp only [hji6]; rfl) | rfl | (simp only [List.length_drop, List.length_take]; rfl)) ?_; (with_reducible refine (crierref6_fill.calls k _ _ t334 (wrap64 ((ji6) + 1)) t354 _ ?side1 ?side2 A51.out).mono ?_); (case side1 => repeat (first | exact (Kd.R_reads' HO337.out).2.2 | (with_reducible refine Kd.C_alloc ?_ _) | (with_reducible refine Kd.C_drewN ?_ _) | (with_reducible refine Kd.C_drew ?_))); (case side2 => exact (Kd.R_reads' HO337.out).2.1); rintro e w54 ⟨v355, rfl, ho0, hb⟩; refine ⟨_, rfl, ?_⟩; have n0_ := am (Kd.R_elder' (by (with_reducible repeat (first | apply ra | apply rn | apply rd)); exact HO337.out) (Kd.R_base ho0) hb); have n1_ := am (Kd.R_elder' (by (with_reducible repeat (first | apply ra | apply rn | apply rd)); exact HO343.out) (Kd.R_base ho0) hb); have n2_ := am (Kd.R_elder' (by (with_reducible repeat (first | apply ra | apply rn | apply rd)); exact HO351.out) (Kd.R_base ho0) hb); have n3_ := am (Kd.R_lower (Kd.R_new' (Kd.R_new' (Kd.R_new' ho0 (Kd.R_lt (by (with_reducible repeat (first | apply ra | apply rn | apply rd)); exact HO337.out))) (Kd.R_lt (by (with_reducible repeat (first | apply ra | apply rn | apply rd)); exact HO343.out))) (Kd.R_lt (by (with_reducible repeat (first | apply ra | apply rn | apply rd)); exact HO351.out))) (below_size (by repeat (with_reducible first | exact HB.out | apply ba | apply bn | apply bd)))); have n4_ := am (below_step (by repeat (with_reducible first | exact HB.out | apply ba | apply bn | apply bd)) hb); clear HO337; clear HO343; clear HO351; clear HB; have HO337 := n0_; have HO343 := n1_; have HO351 := n2_; have HO356 := n3_; have HB := n4_; clear n0_ n1_ n2_ n3_ n4_; (try clear hb); (try clear ho0); obtain ⟨Ao55, co55, eo55⟩ := Kd.R_slice HO356.out; subst eo55) | ((with_reducible refine gate_callee (f := 98) rfl ?_); refine goesL_ (some 59) rfl rfl Tryz.func98 (by kernel_rfl) rfl #[.slice Ao55 t354.length co55, .string a0, .string a1] rfl (by (try simp only [List.map_toArray, List.map_cons, List.map_nil]); first | done | rfl | (simp only [List.length_drop, List.length_take]; rfl)) ?_; (with_reducible refine (crierref6_shows.calls k _ _ t354 a0 a1 t357 true _ ?side1 ?side2 A52.out).mono ?_); (case side1 => repeat (first | exact (Kd.R_reads' HO356.out).2.2 | (with_reducible refine Kd.C_alloc ?_ _) | (with_reducible refine Kd.C_drewN ?_ _) | (with_reducible refine Kd.C_drew ?_))); (case side2 => exact (Kd.R_reads' HO356.out).2.1); rintro e w56 ⟨rfl, hb⟩; refine ⟨_, rfl, ?_⟩; have n0_ := am (Kd.R_below (by (with_reducible repeat (first | apply ra | apply rn | apply rd)); exact HO337.out) hb); have n1_ := am (Kd.R_below (by (with_reducible repeat (first | apply ra | apply rn | apply rd)); exact HO343.out) hb); have n2_ := am (Kd.R_below (by (with_reducible repeat (first | apply ra | apply rn | apply rd)); exact HO351.out) hb); have n3_ := am (Kd.R_below (by (with_reducible repeat (first | apply ra | apply rn | apply rd)); exact HO356.out) hb); have n4_ := am (below_step (by repeat (with_reducible first | exact HB.out | apply ba | apply bn | apply bd)) hb); clear HO337; clear HO343; clear HO351; clear HO356; clear HB; have HO337 := n0_; have HO343 := n1_; have HO351 := n2_; have HO356 := n3_; have HB := n4_; clear n0_ n1_ n2_ n3_ n4_; (try clear hb)))
       go_ret2
       exact ⟨by first | rfl | (simp [errW_none, errW_some] <;> rfl) | (simp only [← hji6]; first | rfl | (simp [errW_none, errW_some] <;> rfl)) | (simp [*, errW_none, errW_some] <;> rfl), by repeat (with_reducible first | exact HB.out | apply ba | apply bn | apply bd)⟩
      ·replace c53 := Bool.eq_false_iff.mpr c53
       subst c53
       rw [if_neg (show ¬ (false = true) by decide)] at H
       have H' := am H
       clear H
       go_wp2_with (first | ((with_reducible refine gate_callee (f := 100) rfl ?_); refine goesL_ (some 56) rfl rfl Tryz.func100 (by kernel_rfl) rfl #[.slice Ao39 t334.length co39, .int .i64 (wrap64 ((ji6) + 1))] rfl (by (try simp only [List.map_toArray, List.map_cons, List.map_nil]); first | done | (simp only [hji6]; rfl) | rfl | (simp only [List.length_drop, List.length_take]; rfl)) ?_; (with_reducible refine (crierref6_fill.calls k _ _ t334 (wrap64 ((ji6) + 1)) t354 _ ?side1 ?side2 A51.out).mono ?_); (case side1 => repeat (first | exact (Kd.R_reads' HO337.out).2.2 | (with_reducible refine Kd.C_alloc ?_ _) | (with_reducible refine Kd.C_drewN ?_ _) | (with_reducible refine Kd.C_drew ?_))); (case side2 => exact (Kd.R_reads' HO337.out).2.1); rintro e w57 ⟨v355, rfl, ho0, hb⟩; refine ⟨_, rfl, ?_⟩; have n0_ := am (Kd.R_elder' (by (with_reducible repeat (first | apply ra | apply rn | apply rd)); exact HO337.out) (Kd.R_base ho0) hb); have n1_ := am (Kd.R_elder' (by (with_reducible repeat (first | apply ra | apply rn | apply rd)); exact HO343.out) (Kd.R_base ho0) hb); have n2_ := am (Kd.R_elder' (by (with_reducible repeat (first | apply ra | apply rn | apply rd)); exact HO351.out) (Kd.R_base ho0) hb); have n3_ := am (Kd.R_lower (Kd.R_new' (Kd.R_new' (Kd.R_new' ho0 (Kd.R_lt (by (with_reducible repeat (first | apply ra | apply rn | apply rd)); exact HO337.out))) (Kd.R_lt (by (with_reducible repeat (first | apply ra | apply rn | apply rd)); exact HO343.out))) (Kd.R_lt (by (with_reducible repeat (first | apply ra | apply rn | apply rd)); exact HO351.out))) (below_size (by repeat (with_reducible first | exact HB.out | apply ba | apply bn | apply bd)))); have n4_ := am (below_step (by repeat (with_reducible first | exact HB.out | apply ba | apply bn | apply bd)) hb); clear HO337; clear HO343; clear HO351; clear HB; have HO337 := n0_; have HO343 := n1_; have HO351 := n2_; have HO356 := n3_; have HB := n4_; clear n0_ n1_ n2_ n3_ n4_; (try clear hb); (try clear ho0); obtain ⟨Ao58, co58, eo58⟩ := Kd.R_slice HO356.out; subst eo58) | ((with_reducible refine gate_callee (f := 98) rfl ?_); refine goesL_ (some 59) rfl rfl Tryz.func98 (by kernel_rfl) rfl #[.slice Ao58 t354.length co58, .string a0, .string a1] rfl (by (try simp only [List.map_toArray, List.map_cons, List.map_nil]); first | done | rfl | (simp only [List.length_drop, List.length_take]; rfl)) ?_; (with_reducible refine (crierref6_shows.calls k _ _ t354 a0 a1 t357 false _ ?side1 ?side2 A52.out).mono ?_); (case side1 => repeat (first | exact (Kd.R_reads' HO356.out).2.2 | (with_reducible refine Kd.C_alloc ?_ _) | (with_reducible refine Kd.C_drewN ?_ _) | (with_reducible refine Kd.C_drew ?_))); (case side2 => exact (Kd.R_reads' HO356.out).2.1); rintro e w59 ⟨rfl, hb⟩; refine ⟨_, rfl, ?_⟩; have n0_ := am (Kd.R_below (by (with_reducible repeat (first | apply ra | apply rn | apply rd)); exact HO337.out) hb); have n1_ := am (Kd.R_below (by (with_reducible repeat (first | apply ra | apply rn | apply rd)); exact HO343.out) hb); have n2_ := am (Kd.R_below (by (with_reducible repeat (first | apply ra | apply rn | apply rd)); exact HO351.out) hb); have n3_ := am (Kd.R_below (by (with_reducible repeat (first | apply ra | apply rn | apply rd)); exact HO356.out) hb); have n4_ := am (below_step (by repeat (with_reducible first | exact HB.out | apply ba | apply bn | apply bd)) hb); clear HO337; clear HO343; clear HO351; clear HO356; clear HB; have HO337 := n0_; have HO343 := n1_; have HO351 := n2_; have HO356 := n3_; have HB := n4_; clear n0_ n1_ n2_ n3_ n4_; (try clear hb)))
       go_meet
       case rel => exact ⟨_, H', ⟨by first | omega | exact Nat.le_refl _⟩, ⟨by (with_reducible repeat (first | apply ra | apply rn | apply rd)); exact Kd.R_mono HO337.out (fun _ hk => trivial)⟩, ⟨by repeat (with_reducible first | exact HB.out | apply ba | apply bn | apply bd)⟩⟩
     ·replace c50 := Bool.eq_false_iff.mpr c50
      subst c50
      rw [if_neg (show ¬ (false = true) by decide)] at H
      have H' := am H
      clear H
      go_wp2
      go_meet
      case rel => exact ⟨_, H', ⟨by first | omega | exact Nat.le_refl _⟩, ⟨by (with_reducible repeat (first | apply ra | apply rn | apply rd)); exact Kd.R_mono HO337.out (fun _ hk => trivial)⟩, ⟨by repeat (with_reducible first | exact HB.out | apply ba | apply bn | apply bd)⟩⟩
    case rest =>
     clear HC36
     try clear c1
     try clear c2
     try clear p2
     try clear c4
     try clear c5
     try clear c6
     try clear p6
     try clear c9
     try clear c10
     try clear c22
     try clear c50
     try clear c53
     obtain ⟨kq, HA, HJ35, HO_6, HB⟩ := hcut
     cases kq with
     | zero => exact absurd HA.out (by simp [crierref6_Outside.j0])
     | succ kj35 =>
      have H := HA.out
      clear HA
      simp only [crierref6_Outside.j0] at H
      replace H := Option.bind_eq_some_iff.mp H
      obtain ⟨t359, A600, H⟩ := H
      try dsimp only at H
      have A60 := am A600
      clear A600
      by_cases c61 : t359 = true
      ·subst c61
       rw [if_pos rfl] at H
       replace H := Option.bind_eq_some_iff.mp H
       obtain ⟨⟨t360, t361⟩, A620, H⟩ := H
       try dsimp only at H
       have A62 := am A620
       clear A620
       have HC63 := am H
       clear H
       go_upto_if 72 with (first | ((with_reducible refine gate_callee (f := 96) rfl ?_); refine goesL_ (some 65) rfl rfl Tryz.func96 (by kernel_rfl) rfl #[.string a1] rfl (by (try simp only [List.map_toArray, List.map_cons, List.map_nil]); first | done | rfl | (simp only [List.length_drop, List.length_take]; rfl)) ?_; (with_reducible refine (crierref5_Plain.calls kj35 a1 true _ A60.out).mono ?_); rintro e w64 ⟨rfl, hb⟩; refine ⟨_, rfl, ?_⟩; have n0_ := am (Kd.R_below (by (with_reducible repeat (first | apply ra | apply rn | apply rd)); exact HO_6.out) hb); have n1_ := am (below_step (by repeat (with_reducible first | exact HB.out | apply ba | apply bn | apply bd)) hb); clear HO_6; clear HB; have HO_6 := n0_; have HB := n1_; clear n0_ n1_; (try clear hb)) | ((with_reducible refine gate_callee (f := 97) rfl ?_); refine goesL_ (some 69) rfl rfl Tryz.func97 (by kernel_rfl) rfl #[.string a1] rfl (by (try simp only [List.map_toArray, List.map_cons, List.map_nil]); first | done | rfl | (simp only [List.length_drop, List.length_take]; rfl)) ?_; (with_reducible refine (crierref6_open.calls kj35 a1 t360 t361 _ A62.out).mono ?_); rintro e w65 ⟨v362, rfl, ho0, hb⟩; refine ⟨_, rfl, ?_⟩; have n0_ := am (Kd.R_elder' (by (with_reducible repeat (first | apply ra | apply rn | apply rd)); exact HO_6.out) (Kd.R_base ho0) hb); have n1_ := am (Kd.R_lower (Kd.R_new' ho0 (Kd.R_lt (by (with_reducible repeat (first | apply ra | apply rn | apply rd)); exact HO_6.out))) (below_size (by repeat (with_reducible first | exact HB.out | apply ba | apply bn | apply bd)))); have n2_ := am (below_step (by repeat (with_reducible first | exact HB.out | apply ba | apply bn | apply bd)) hb); clear HO_6; clear HB; have HO_6 := n0_; have HO363 := n1_; have HB := n2_; clear n0_ n1_ n2_; (try clear hb); (try clear ho0)))
       (try simp only [Act.put, List.setIfInBounds_toArray, List.set_cons_zero, List.set_cons_succ])
       go_cut [] (fun wc => ∃ (kq : Nat), Aside0 (crierref6_Outside.j2 kq a0 a1 t334 t335 ji6 t360 = some (r1, r2)) ∧ Aside0 (kq ≤ kj35) ∧ Aside0 (Kd.R Kd.string 9 wc w.heap.size (fun k_ => some k_ ≠ (v362 : Value).ownBlock) (.slice Ao39 t334.length co39) t334) ∧ Aside0 (Kd.R Kd.string 9 wc w.heap.size (fun k_ => some k_ ≠ ((.slice Ao39 t334.length co39) : Value).ownBlock) v362 t360) ∧ Aside0 (Below w.heap.size w wc))
       case first =>
        have H := HC63.out
        clear HC63
        by_cases c66 : t335 = true
        ·subst c66
         rw [if_pos rfl] at H
         have H' := am H
         clear H
         go_wp2
         go_loopg [13] kj35 (fun kq v13 w' => ∃ (x13_2 : Int), v13 = .int .i64 x13_2 ∧ Aside0 (crierref6_Outside.l0 kq a0 a1 t334 true ji6 t360 x13_2 = some (r1, r2)) ∧ Aside0 (kq ≤ kj35) ∧ Aside0 (Kd.R Kd.string 9 w' w.heap.size (fun k_ => some k_ ≠ (v362 : Value).ownBlock) (.slice Ao39 t334.length co39) t334) ∧ Aside0 (Kd.R Kd.string 9 w' w.heap.size (fun k_ => some k_ ≠ ((.slice Ao39 t334.length co39) : Value).ownBlock) v362 t360) ∧ Aside0 (Below w.heap.size w w'))
         case atStart => exact ⟨(wrap64 (ji6 + 2)), (by first | rfl | (simp; done) | (simp only [← hji6] <;> (first | rfl | simp)) | (simp [*]; done)), H', ⟨Nat.le_refl _⟩, ⟨by (with_reducible repeat (first | apply ra | apply rn | apply rd)); exact Kd.R_mono HO_6.out (fun _ hk => hk.2)⟩, ⟨by (with_reducible repeat (first | apply ra | apply rn | apply rd)); exact Kd.R_mono HO363.out (fun _ hk => hk.2)⟩, ⟨by repeat (with_reducible first | exact HB.out | apply ba | apply bn | apply bd)⟩⟩
         case round =>
          clear H'
          try clear c1
          try clear c2
          try clear p2
          try clear c4
          try clear c5
          try clear c6
          try clear p6
          try clear c9
          try clear c10
          try clear c22
          try clear c50
          try clear c53
          try clear c61
          try clear p64
          try clear c66
          try clear p2
          try clear p6
          obtain ⟨x13_2, rfl, HA, HK2, HO_6, HO_11, HB⟩ := hrel
          cases gk with
          | zero => exact absurd HA.out (by simp [crierref6_Outside.l0])
          | succ k2 =>
           have H := HA.out
           clear HA
           simp only [crierref6_Outside.l0] at H
           obtain ⟨ji67, hji67⟩ : ∃ j_ : Int, (mx ji6 (t360.length : Int)) = j_ := ⟨_, rfl⟩
           replace H : (if x13_2 ≤ (wrap64 ((ji67) + 1)) then ((crierref6_fill.f k2 t334 x13_2).bind fun t364 => ((crierref6_shows.f k2 t364 a0 a1).bind fun bt367 => (if bt367.2 = true then (some (bt367.1, true)) else (crierref6_Outside.l0 k2 a0 a1 t334 true ji6 t360 (wrap64 (x13_2 + 1)))))) else (crierref6_Outside.j2 k2 a0 a1 t334 true ji6 t360)) = some (r1, r2) := by first | (rw [hji67] at H; exact H) | (simp only [hji67] at H ⊢; exact H)
           have hji67_ : (if ji6 < (t360.length : Int) then (t360.length : Int) else ji6) = ji67 := hji67
           by_cases c68 : x13_2 ≤ (wrap64 ((ji67) + 1))
           ·rw [if_pos c68] at H
            have c68b0 : decide (x13_2 ≤ (wrap64 ((ji67) + 1))) = true := decide_eq_true c68
            clear c68
            (first | rw [c68b0] | (simp only [i64_w, i32_w]; rw [c68b0]) | skip)
            replace H := Option.bind_eq_some_iff.mp H
            obtain ⟨t364, A690, H⟩ := H
            try dsimp only at H
            have A69 := am A690
            clear A690
            replace H := Option.bind_eq_some_iff.mp H
            obtain ⟨⟨t367, t368⟩, A700, H⟩ := H
            try dsimp only at H
            have A70 := am A700
            clear A700
            by_cases c71 : t368 = true
            ·subst c71
             rw [if_pos rfl] at H
             simp only [Option.some.injEq, Prod.mk.injEq] at H
             obtain ⟨rfl, rfl⟩ := H
             obtain ⟨Ao72, co72, eo72⟩ := Kd.R_slice HO_11.out
             subst eo72
             go_wp2_with (first | ((with_reducible refine gate_callee (f := 100) rfl ?_); refine goesL_ (some 87) rfl rfl Tryz.func100 (by kernel_rfl) rfl #[.slice Ao39 t334.length co39, .int .i64 x13_2] rfl (by (try simp only [List.map_toArray, List.map_cons, List.map_nil]); first | done | rfl | (simp only [List.length_drop, List.length_take]; rfl)) ?_; (with_reducible refine (crierref6_fill.calls k2 _ _ t334 x13_2 t364 _ ?side1 ?side2 A69.out).mono ?_); (case side1 => repeat (first | exact (Kd.R_reads' HO_6.out).2.2 | (with_reducible refine Kd.C_alloc ?_ _) | (with_reducible refine Kd.C_drewN ?_ _) | (with_reducible refine Kd.C_drew ?_))); (case side2 => exact (Kd.R_reads' HO_6.out).2.1); rintro e w73 ⟨v365, rfl, ho0, hb⟩; refine ⟨_, rfl, ?_⟩; have n0_ := am (Kd.R_elder' (by (with_reducible repeat (first | apply ra | apply rn | apply rd)); exact HO_6.out) (Kd.R_base ho0) hb); have n1_ := am (Kd.R_elder' (by (with_reducible repeat (first | apply ra | apply rn | apply rd)); exact HO_11.out) (Kd.R_base ho0) hb); have n2_ := am (Kd.R_lower (Kd.R_new' (Kd.R_new' ho0 (Kd.R_lt (by (with_reducible repeat (first | apply ra | apply rn | apply rd)); exact HO_6.out))) (Kd.R_lt (by (with_reducible repeat (first | apply ra | apply rn | apply rd)); exact HO_11.out))) (below_size (by repeat (with_reducible first | exact HB.out | apply ba | apply bn | apply bd)))); have n3_ := am (below_step (by repeat (with_reducible first | exact HB.out | apply ba | apply bn | apply bd)) hb); clear HO_6; clear HO_11; clear HB; have HO_6 := n0_; have HO_11 := n1_; have HO366 := n2_; have HB := n3_; clear n0_ n1_ n2_ n3_; (try clear hb); (try clear ho0); obtain ⟨Ao74, co74, eo74⟩ := Kd.R_slice HO366.out; subst eo74) | ((with_reducible refine gate_callee (f := 98) rfl ?_); refine goesL_ (some 90) rfl rfl Tryz.func98 (by kernel_rfl) rfl #[.slice Ao74 t364.length co74, .string a0, .string a1] rfl (by (try simp only [List.map_toArray, List.map_cons, List.map_nil]); first | done | rfl | (simp only [List.length_drop, List.length_take]; rfl)) ?_; (with_reducible refine (crierref6_shows.calls k2 _ _ t364 a0 a1 t367 true _ ?side1 ?side2 A70.out).mono ?_); (case side1 => repeat (first | exact (Kd.R_reads' HO366.out).2.2 | (with_reducible refine Kd.C_alloc ?_ _) | (with_reducible refine Kd.C_drewN ?_ _) | (with_reducible refine Kd.C_drew ?_))); (case side2 => exact (Kd.R_reads' HO366.out).2.1); rintro e w75 ⟨rfl, hb⟩; refine ⟨_, rfl, ?_⟩; have n0_ := am (Kd.R_below (by (with_reducible repeat (first | apply ra | apply rn | apply rd)); exact HO_6.out) hb); have n1_ := am (Kd.R_below (by (with_reducible repeat (first | apply ra | apply rn | apply rd)); exact HO_11.out) hb); have n2_ := am (Kd.R_below (by (with_reducible repeat (first | apply ra | apply rn | apply rd)); exact HO366.out) hb); have n3_ := am (below_step (by repeat (with_reducible first | exact HB.out | apply ba | apply bn | apply bd)) hb); clear HO_6; clear HO_11; clear HO366; clear HB; have HO_6 := n0_; have HO_11 := n1_; have HO366 := n2_; have HB := n3_; clear n0_ n1_ n2_ n3_; (try clear hb)))
             go_ret2
             exact ⟨by first | rfl | (simp [errW_none, errW_some] <;> rfl) | (simp only [← hji6, ← hji67]; first | rfl | (simp [errW_none, errW_some] <;> rfl)) | (simp [*, errW_none, errW_some] <;> rfl), by repeat (with_reducible first | exact HB.out | apply ba | apply bn | apply bd)⟩
            ·replace c71 := Bool.eq_false_iff.mpr c71
             subst c71
             rw [if_neg (show ¬ (false = true) by decide)] at H
             have H' := am H
             clear H
             obtain ⟨Ao76, co76, eo76⟩ := Kd.R_slice HO_11.out
             subst eo76
             go_wp2_with (first | ((with_reducible refine gate_callee (f := 100) rfl ?_); refine goesL_ (some 87) rfl rfl Tryz.func100 (by kernel_rfl) rfl #[.slice Ao39 t334.length co39, .int .i64 x13_2] rfl (by (try simp only [List.map_toArray, List.map_cons, List.map_nil]); first | done | rfl | (simp only [List.length_drop, List.length_take]; rfl)) ?_; (with_reducible refine (crierref6_fill.calls k2 _ _ t334 x13_2 t364 _ ?side1 ?side2 A69.out).mono ?_); (case side1 => repeat (first | exact (Kd.R_reads' HO_6.out).2.2 | (with_reducible refine Kd.C_alloc ?_ _) | (with_reducible refine Kd.C_drewN ?_ _) | (with_reducible refine Kd.C_drew ?_))); (case side2 => exact (Kd.R_reads' HO_6.out).2.1); rintro e w77 ⟨v365, rfl, ho0, hb⟩; refine ⟨_, rfl, ?_⟩; have n0_ := am (Kd.R_elder' (by (with_reducible repeat (first | apply ra | apply rn | apply rd)); exact HO_6.out) (Kd.R_base ho0) hb); have n1_ := am (Kd.R_elder' (by (with_reducible repeat (first | apply ra | apply rn | apply rd)); exact HO_11.out) (Kd.R_base ho0) hb); have n2_ := am (Kd.R_lower (Kd.R_new' (Kd.R_new' ho0 (Kd.R_lt (by (with_reducible repeat (first | apply ra | apply rn | apply rd)); exact HO_6.out))) (Kd.R_lt (by (with_reducible repeat (first | apply ra | apply rn | apply rd)); exact HO_11.out))) (below_size (by repeat (with_reducible first | exact HB.out | apply ba | apply bn | apply bd)))); have n3_ := am (below_step (by repeat (with_reducible first | exact HB.out | apply ba | apply bn | apply bd)) hb); clear HO_6; clear HO_11; clear HB; have HO_6 := n0_; have HO_11 := n1_; have HO366 := n2_; have HB := n3_; clear n0_ n1_ n2_ n3_; (try clear hb); (try clear ho0); obtain ⟨Ao78, co78, eo78⟩ := Kd.R_slice HO366.out; subst eo78) | ((with_reducible refine gate_callee (f := 98) rfl ?_); refine goesL_ (some 90) rfl rfl Tryz.func98 (by kernel_rfl) rfl #[.slice Ao78 t364.length co78, .string a0, .string a1] rfl (by (try simp only [List.map_toArray, List.map_cons, List.map_nil]); first | done | rfl | (simp only [List.length_drop, List.length_take]; rfl)) ?_; (with_reducible refine (crierref6_shows.calls k2 _ _ t364 a0 a1 t367 false _ ?side1 ?side2 A70.out).mono ?_); (case side1 => repeat (first | exact (Kd.R_reads' HO366.out).2.2 | (with_reducible refine Kd.C_alloc ?_ _) | (with_reducible refine Kd.C_drewN ?_ _) | (with_reducible refine Kd.C_drew ?_))); (case side2 => exact (Kd.R_reads' HO366.out).2.1); rintro e w79 ⟨rfl, hb⟩; refine ⟨_, rfl, ?_⟩; have n0_ := am (Kd.R_below (by (with_reducible repeat (first | apply ra | apply rn | apply rd)); exact HO_6.out) hb); have n1_ := am (Kd.R_below (by (with_reducible repeat (first | apply ra | apply rn | apply rd)); exact HO_11.out) hb); have n2_ := am (Kd.R_below (by (with_reducible repeat (first | apply ra | apply rn | apply rd)); exact HO366.out) hb); have n3_ := am (below_step (by repeat (with_reducible first | exact HB.out | apply ba | apply bn | apply bd)) hb); clear HO_6; clear HO_11; clear HO366; clear HB; have HO_6 := n0_; have HO_11 := n1_; have HO366 := n2_; have HB := n3_; clear n0_ n1_ n2_ n3_; (try clear hb)))
             go_roundg k2
             case measure => have := HJ35.out; have := HK2.out; omega
             case rel => exact ⟨(wrap64 (x13_2 + 1)), (by first | rfl | (simp; done) | (simp [*]; done)), H', ⟨by have := HJ35.out; have := HK2.out; omega⟩, ⟨by (with_reducible repeat (first | apply ra | apply rn | apply rd)); exact Kd.R_mono HO_6.out (fun _ hk => hk.1)⟩, ⟨by (with_reducible repeat (first | apply ra | apply rn | apply rd)); exact Kd.R_mono HO_11.out (fun _ hk => hk.1)⟩, ⟨by repeat (with_reducible first | exact HB.out | apply ba | apply bn | apply bd)⟩⟩
           ·rw [if_neg c68] at H
            have c68b0 : decide (x13_2 ≤ (wrap64 ((ji67) + 1))) = false := decide_eq_false c68
            clear c68
            (first | rw [c68b0] | (simp only [i64_w, i32_w]; rw [c68b0]) | skip)
            have H' := am H
            clear H
            obtain ⟨Ao80, co80, eo80⟩ := Kd.R_slice HO_11.out
            subst eo80
            go_wp2
            go_meet
            case rel => exact ⟨_, H', ⟨by have := HJ35.out; have := HK2.out; first | omega | exact Nat.le_refl _⟩, ⟨by (with_reducible repeat (first | apply ra | apply rn | apply rd)); exact HO_6.out⟩, ⟨by (with_reducible repeat (first | apply ra | apply rn | apply rd)); exact HO_11.out⟩, ⟨by repeat (with_reducible first | exact HB.out | apply ba | apply bn | apply bd)⟩⟩
        ·replace c66 := Bool.eq_false_iff.mpr c66
         subst c66
         rw [if_neg (show ¬ (false = true) by decide)] at H
         have H' := am H
         clear H
         go_wp2
         go_meet
         case rel => exact ⟨_, H', ⟨by have := HJ35.out; first | omega | exact Nat.le_refl _⟩, ⟨by (with_reducible repeat (first | apply ra | apply rn | apply rd)); exact Kd.R_mono HO_6.out (fun _ hk => hk.2)⟩, ⟨by (with_reducible repeat (first | apply ra | apply rn | apply rd)); exact Kd.R_mono HO363.out (fun _ hk => hk.2)⟩, ⟨by repeat (with_reducible first | exact HB.out | apply ba | apply bn | apply bd)⟩⟩
       case rest =>
        clear HC63
        try clear c1
        try clear c2
        try clear p2
        try clear c4
        try clear c5
        try clear c6
        try clear p6
        try clear c7
        try clear c9
        try clear c10
        try clear c22
        try clear c50
        try clear c53
        try clear c61
        try clear p64
        try clear c66
        try clear c68
        try clear c68b0
        try clear c71
        try clear p2
        try clear p6
        try clear p64
        obtain ⟨kq, HA, HJ62, HO_6, HO_11, HB⟩ := hcut
        cases kq with
        | zero => exact absurd HA.out (by simp [crierref6_Outside.j2])
        | succ kj62 =>
         have H := HA.out
         clear HA
         simp only [crierref6_Outside.j2] at H
         have H' := am H
         clear H
         go_wp2
         go_loopg [14] kj62 (fun kq v14 w' => ∃ (x6_3 : List ByteArray) (x11_3 : List ByteArray) (x14_3 : Int), v14 = .int .i64 x14_3 ∧ Aside0 (crierref6_Outside.l1 kq a0 a1 x6_3 t335 ji6 x11_3 x14_3 = some (r1, r2)) ∧ Aside0 (kq ≤ kj62) ∧ Aside0 (Kd.R Kd.string 9 w' w.heap.size (fun k_ => some k_ ≠ (v362 : Value).ownBlock) (.slice Ao39 t334.length co39) x6_3) ∧ Aside0 (Kd.R Kd.string 9 w' w.heap.size (fun k_ => some k_ ≠ ((.slice Ao39 t334.length co39) : Value).ownBlock) v362 x11_3) ∧ Aside0 (Below w.heap.size w w'))
         case atStart => exact ⟨(t334), (t360), (0), (by first | rfl | (simp; done) | (simp [*]; done)), H', ⟨Nat.le_refl _⟩, ⟨by (with_reducible repeat (first | apply ra | apply rn | apply rd)); exact HO_6.out⟩, ⟨by (with_reducible repeat (first | apply ra | apply rn | apply rd)); exact HO_11.out⟩, ⟨by repeat (with_reducible first | exact HB.out | apply ba | apply bn | apply bd)⟩⟩
         case round =>
          clear H'
          try clear c1
          try clear c2
          try clear p2
          try clear c4
          try clear c5
          try clear c6
          try clear p6
          try clear c7
          try clear c9
          try clear c10
          try clear c22
          try clear c50
          try clear c53
          try clear c61
          try clear p64
          try clear c66
          try clear c68
          try clear c68b0
          try clear c71
          try clear p2
          try clear p6
          try clear p64
          obtain ⟨x6_3, x11_3, x14_3, rfl, HA, HK3, HO_6, HO_11, HB⟩ := hrel
          have hl6_3 := (Kd.R_reads' HO_6.out).1
          rw [hl6_3] at HO_6
          (try simp only [hl6_3])
          (try simp only [hl6_3] at HO_11)
          cases gk with
          | zero => exact absurd HA.out (by simp [crierref6_Outside.l1])
          | succ k3 =>
           have H := HA.out
           clear HA
           simp only [crierref6_Outside.l1] at H
           by_cases c81 : x14_3 < (x11_3.length : Int)
           ·rw [if_pos c81] at H
            have c81b0 : decide (x14_3 < (x11_3.length : Int)) = true := decide_eq_true c81
            clear c81
            have HC82 := am H
            clear H
            obtain ⟨Ao83, co83, eo83⟩ := Kd.R_slice HO_11.out
            subst eo83
            go_upto_region 28 with (fail)
            go_cut [128] (fun v128 wc => ∃ (kq : Nat) (x128_81 : Bool), v128 = .bool x128_81 ∧ Aside0 (crierref6_Outside.j4 kq a0 a1 x6_3 t335 ji6 x11_3 x14_3 x128_81 = some (r1, r2)) ∧ Aside0 (kq ≤ k3) ∧ Aside0 (Kd.R Kd.string 9 wc w.heap.size (fun k_ => some k_ ≠ ((.slice Ao83 x11_3.length co83) : Value).ownBlock) (.slice Ao39 x6_3.length co39) x6_3) ∧ Aside0 (Kd.R Kd.string 9 wc w.heap.size (fun k_ => some k_ ≠ ((.slice Ao39 x6_3.length co39) : Value).ownBlock) (.slice Ao83 x11_3.length co83) x11_3) ∧ Aside0 (Below w.heap.size w wc))
            case first =>
             have H := HC82.out
             clear HC82
             by_cases c84 : x14_3 < (x6_3.length : Int)
             ·rw [if_pos c84] at H
              have c84b0 : decide (x14_3 < (x6_3.length : Int)) = true := decide_eq_true c84
              clear c84
              (first | rw [c84b0] | (simp only [i64_w, i32_w]; rw [c84b0]) | skip)
              by_cases c85 : 0 ≤ x14_3
              ·rw [if_pos c85] at H
               have c85b0 : decide (0 ≤ x14_3) = true := decide_eq_true c85
               clear c85
               by_cases c86 : (rdOf ByteArray.empty x6_3 x14_3).toList = ([43] : List UInt8)
               ·rw [if_pos c86] at H
                have c86b0 : ((rdOf ByteArray.empty x6_3 x14_3).toList == ([43] : List UInt8)) = true := beq_iff_eq.mpr c86
                have c86b1 : ((rdOf ByteArray.empty x6_3 x14_3).toList != ([43] : List UInt8)) = false := bne_eq_false_iff_eq.mpr c86
                clear c86
                by_cases c87 : x14_3 ≥ (x6_3.length : Int)
                ·rw [if_pos c87] at H
                 have c87b0 : decide ((x6_3.length : Int) ≤ x14_3) = true := decide_eq_true c87
                 clear c87
                 by_cases c88 : t335 = true
                 ·subst c88
                  rw [if_pos rfl] at H
                  have H' := am H
                  clear H
                  have p369 : 0 ≤ (x14_3 : Int) := of_decide_eq_true (by assumption)
                  have q369 : x14_3 < (x6_3.length : Int) := of_decide_eq_true (by assumption)
                  obtain ⟨ad369, e369, hx369_0⟩ := Kd.at_string (Kd.R_reads' HO_6.out).2.2 x14_3 p369 q369
                  cases e369
                  replace p369 := eq_true p369
                  replace q369 := eq_true q369
                  have p370 : 0 ≤ (x14_3 : Int) := of_decide_eq_true (by assumption)
                  have q370 : x14_3 < (x11_3.length : Int) := of_decide_eq_true (by assumption)
                  obtain ⟨ad370, e370, hx370_0⟩ := Kd.at_string (Kd.R_reads' HO_11.out).2.2 x14_3 p370 q370
                  cases e370
                  replace p370 := eq_true p370
                  replace q370 := eq_true q370
                  go_wp2
                  go_meet
                  case rel => exact ⟨_, (((rdOf ByteArray.empty x11_3 x14_3).toList != ([] : List UInt8))), (by first | rfl | (simp; done) | (simp [*]; done) | (simp; cases (rdOf ByteArray.empty x11_3 x14_3).toList <;> rfl)), H', ⟨by have := HJ35.out; have := HJ62.out; have := HK3.out; first | omega | exact Nat.le_refl _⟩, ⟨by (try simp only [hl6_3]); (with_reducible repeat (first | apply ra | apply rn | apply rd)); exact HO_6.out⟩, ⟨by (try simp only [hl6_3]); (with_reducible repeat (first | apply ra | apply rn | apply rd)); exact HO_11.out⟩, ⟨by repeat (with_reducible first | exact HB.out | apply ba | apply bn | apply bd)⟩⟩
                 ·replace c88 := Bool.eq_false_iff.mpr c88
                  subst c88
                  rw [if_neg (show ¬ (false = true) by decide)] at H
                  have H' := am H
                  clear H
                  have p369 : 0 ≤ (x14_3 : Int) := of_decide_eq_true (by assumption)
                  have q369 : x14_3 < (x6_3.length : Int) := of_decide_eq_true (by assumption)
                  obtain ⟨ad369, e369, hx369_0⟩ := Kd.at_string (Kd.R_reads' HO_6.out).2.2 x14_3 p369 q369
                  cases e369
                  replace p369 := eq_true p369
                  replace q369 := eq_true q369
                  go_wp2
                  go_meet
                  case rel => exact ⟨_, (true), (by first | rfl | (simp; done) | (simp [*]; done)), H', ⟨by have := HJ35.out; have := HJ62.out; have := HK3.out; first | omega | exact Nat.le_refl _⟩, ⟨by (try simp only [hl6_3]); (with_reducible repeat (first | apply ra | apply rn | apply rd)); exact HO_6.out⟩, ⟨by (try simp only [hl6_3]); (with_reducible repeat (first | apply ra | apply rn | apply rd)); exact HO_11.out⟩, ⟨by repeat (with_reducible first | exact HB.out | apply ba | apply bn | apply bd)⟩⟩
                ·rw [if_neg c87] at H
                 have c87b0 : decide ((x6_3.length : Int) ≤ x14_3) = false := decide_eq_false c87
                 clear c87
                 have H' := am H
                 clear H
                 have p369 : 0 ≤ (x14_3 : Int) := of_decide_eq_true (by assumption)
                 have q369 : x14_3 < (x6_3.length : Int) := of_decide_eq_true (by assumption)
                 obtain ⟨ad369, e369, hx369_0⟩ := Kd.at_string (Kd.R_reads' HO_6.out).2.2 x14_3 p369 q369
                 cases e369
                 replace p369 := eq_true p369
                 replace q369 := eq_true q369
                 have p371 : 0 ≤ (x14_3 : Int) := of_decide_eq_true (by assumption)
                 have q371 : x14_3 < (x11_3.length : Int) := of_decide_eq_true (by assumption)
                 obtain ⟨ad371, e371, hx371_0⟩ := Kd.at_string (Kd.R_reads' HO_11.out).2.2 x14_3 p371 q371
                 cases e371
                 replace p371 := eq_true p371
                 replace q371 := eq_true q371
                 go_wp2
                 go_meet
                 case rel => exact ⟨_, (((rdOf ByteArray.empty x11_3 x14_3).toList != ([] : List UInt8))), (by first | rfl | (simp; done) | (simp [*]; done) | (simp; cases (rdOf ByteArray.empty x11_3 x14_3).toList <;> rfl)), H', ⟨by have := HJ35.out; have := HJ62.out; have := HK3.out; first | omega | exact Nat.le_refl _⟩, ⟨by (try simp only [hl6_3]); (with_reducible repeat (first | apply ra | apply rn | apply rd)); exact HO_6.out⟩, ⟨by (try simp only [hl6_3]); (with_reducible repeat (first | apply ra | apply rn | apply rd)); exact HO_11.out⟩, ⟨by repeat (with_reducible first | exact HB.out | apply ba | apply bn | apply bd)⟩⟩
               ·rw [if_neg c86] at H
                have c86b0 : ((rdOf ByteArray.empty x6_3 x14_3).toList == ([43] : List UInt8)) = false := beq_eq_false_iff_ne.mpr c86
                have c86b1 : ((rdOf ByteArray.empty x6_3 x14_3).toList != ([43] : List UInt8)) = true := bne_iff_ne.mpr c86
                have H' := am H
                clear H
                have p369 : 0 ≤ (x14_3 : Int) := of_decide_eq_true (by assumption)
                have q369 : x14_3 < (x6_3.length : Int) := of_decide_eq_true (by assumption)
                obtain ⟨ad369, e369, hx369_0⟩ := Kd.at_string (Kd.R_reads' HO_6.out).2.2 x14_3 p369 q369
                cases e369
                replace p369 := eq_true p369
                replace q369 := eq_true q369
                go_wp2
                go_meet
                case rel => exact ⟨_, (true), (by first | rfl | (simp; done) | (simp [*]; done)), H', ⟨by have := HJ35.out; have := HJ62.out; have := HK3.out; first | omega | exact Nat.le_refl _⟩, ⟨by (try simp only [hl6_3]); (with_reducible repeat (first | apply ra | apply rn | apply rd)); exact HO_6.out⟩, ⟨by (try simp only [hl6_3]); (with_reducible repeat (first | apply ra | apply rn | apply rd)); exact HO_11.out⟩, ⟨by repeat (with_reducible first | exact HB.out | apply ba | apply bn | apply bd)⟩⟩
              ·rw [if_neg c85] at H
               exact absurd H (by simp)
             ·rw [if_neg c84] at H
              have c84b0 : decide (x14_3 < (x6_3.length : Int)) = false := decide_eq_false c84
              clear c84
              (first | rw [c84b0] | (simp only [i64_w, i32_w]; rw [c84b0]) | skip)
              by_cases c89 : x14_3 ≥ (x6_3.length : Int)
              ·rw [if_pos c89] at H
               have c89b0 : decide ((x6_3.length : Int) ≤ x14_3) = true := decide_eq_true c89
               clear c89
               by_cases c90 : t335 = true
               ·subst c90
                rw [if_pos rfl] at H
                by_cases c91 : 0 ≤ x14_3
                ·rw [if_pos c91] at H
                 have c91b0 : decide (0 ≤ x14_3) = true := decide_eq_true c91
                 clear c91
                 have H' := am H
                 clear H
                 have p372 : 0 ≤ (x14_3 : Int) := of_decide_eq_true (by assumption)
                 have q372 : x14_3 < (x11_3.length : Int) := of_decide_eq_true (by assumption)
                 obtain ⟨ad372, e372, hx372_0⟩ := Kd.at_string (Kd.R_reads' HO_11.out).2.2 x14_3 p372 q372
                 cases e372
                 replace p372 := eq_true p372
                 replace q372 := eq_true q372
                 go_wp2
                 go_meet
                 case rel => exact ⟨_, (((rdOf ByteArray.empty x11_3 x14_3).toList != ([] : List UInt8))), (by first | rfl | (simp; done) | (simp [*]; done) | (simp; cases (rdOf ByteArray.empty x11_3 x14_3).toList <;> rfl)), H', ⟨by have := HJ35.out; have := HJ62.out; have := HK3.out; first | omega | exact Nat.le_refl _⟩, ⟨by (try simp only [hl6_3]); (with_reducible repeat (first | apply ra | apply rn | apply rd)); exact HO_6.out⟩, ⟨by (try simp only [hl6_3]); (with_reducible repeat (first | apply ra | apply rn | apply rd)); exact HO_11.out⟩, ⟨by repeat (with_reducible first | exact HB.out | apply ba | apply bn | apply bd)⟩⟩
                ·rw [if_neg c91] at H
                 exact absurd H (by simp)
               ·replace c90 := Bool.eq_false_iff.mpr c90
                subst c90
                rw [if_neg (show ¬ (false = true) by decide)] at H
                have H' := am H
                clear H
                go_wp2
                go_meet
                case rel => exact ⟨_, (true), (by first | rfl | (simp; done) | (simp [*]; done)), H', ⟨by have := HJ35.out; have := HJ62.out; have := HK3.out; first | omega | exact Nat.le_refl _⟩, ⟨by (try simp only [hl6_3]); (with_reducible repeat (first | apply ra | apply rn | apply rd)); exact HO_6.out⟩, ⟨by (try simp only [hl6_3]); (with_reducible repeat (first | apply ra | apply rn | apply rd)); exact HO_11.out⟩, ⟨by repeat (with_reducible first | exact HB.out | apply ba | apply bn | apply bd)⟩⟩
              ·rw [if_neg c89] at H
               have c89b0 : decide ((x6_3.length : Int) ≤ x14_3) = false := decide_eq_false c89
               clear c89
               by_cases c92 : 0 ≤ x14_3
               ·rw [if_pos c92] at H
                have c92b0 : decide (0 ≤ x14_3) = true := decide_eq_true c92
                clear c92
                have H' := am H
                clear H
                have p373 : 0 ≤ (x14_3 : Int) := of_decide_eq_true (by assumption)
                have q373 : x14_3 < (x11_3.length : Int) := of_decide_eq_true (by assumption)
                obtain ⟨ad373, e373, hx373_0⟩ := Kd.at_string (Kd.R_reads' HO_11.out).2.2 x14_3 p373 q373
                cases e373
                replace p373 := eq_true p373
                replace q373 := eq_true q373
                go_wp2
                go_meet
                case rel => exact ⟨_, (((rdOf ByteArray.empty x11_3 x14_3).toList != ([] : List UInt8))), (by first | rfl | (simp; done) | (simp [*]; done) | (simp; cases (rdOf ByteArray.empty x11_3 x14_3).toList <;> rfl)), H', ⟨by have := HJ35.out; have := HJ62.out; have := HK3.out; first | omega | exact Nat.le_refl _⟩, ⟨by (try simp only [hl6_3]); (with_reducible repeat (first | apply ra | apply rn | apply rd)); exact HO_6.out⟩, ⟨by (try simp only [hl6_3]); (with_reducible repeat (first | apply ra | apply rn | apply rd)); exact HO_11.out⟩, ⟨by repeat (with_reducible first | exact HB.out | apply ba | apply bn | apply bd)⟩⟩
               ·rw [if_neg c92] at H
                exact absurd H (by simp)
            case rest =>
             clear HC82
             try clear c1
             try clear c2
             try clear p2
             try clear p3
             try clear q3
             try clear hx3
             try clear c4
             try clear c5
             try clear c6
             try clear p6
             try clear c7
             try clear c8
             try clear c9
             try clear c10
             try clear c22
             try clear p36
             try clear q36
             try clear hx36
             try clear p37
             try clear q37
             try clear hx37
             try clear c50
             try clear c53
             try clear c61
             try clear p64
             try clear c66
             try clear c68
             try clear c68b0
             try clear c71
             try clear c81
             try clear c81b0
             try clear c84
             try clear c84b0
             try clear c85
             try clear c85b0
             try clear c86
             try clear c86b0
             try clear c86b1
             try clear c87
             try clear c87b0
             try clear c88
             try clear c89
             try clear c89b0
             try clear c90
             try clear c91
             try clear c91b0
             try clear c92
             try clear c92b0
             try clear hx369_0
             try clear hx370_0
             try clear hx371_0
             try clear hx372_0
             try clear hx373_0
             try clear p2
             try clear p369
             try clear p370
             try clear p371
             try clear p372
             try clear p373
             try clear p6
             try clear p64
             try clear q369
             try clear q370
             try clear q371
             try clear q372
             try clear q373
             obtain ⟨kq, x128_81, rfl, HA, HJ81, HO_6, HO_11, HB⟩ := hcut
             cases kq with
             | zero => exact absurd HA.out (by simp [crierref6_Outside.j4])
             | succ kj81 =>
              have H := HA.out
              clear HA
              simp only [crierref6_Outside.j4] at H
              by_cases c93 : x128_81 = true
              ·subst c93
               rw [if_pos rfl] at H
               have H' := am H
               clear H
               go_wp2
               (try simp only [← hl6_3])
               go_roundg kj81
               case measure => have := HJ35.out; have := HJ62.out; have := HK3.out; have := HJ81.out; omega
               case rel => exact ⟨(x6_3), (x11_3), (wrap64 (x14_3 + 1)), (by first | rfl | (simp; done) | (simp [*]; done)), H', ⟨by have := HJ35.out; have := HJ62.out; have := HK3.out; have := HJ81.out; omega⟩, ⟨by (try simp only [hl6_3]); (with_reducible repeat (first | apply ra | apply rn | apply rd)); exact HO_6.out⟩, ⟨by (try simp only [hl6_3]); (with_reducible repeat (first | apply ra | apply rn | apply rd)); exact HO_11.out⟩, ⟨by repeat (with_reducible first | exact HB.out | apply ba | apply bn | apply bd)⟩⟩
              ·replace c93 := Bool.eq_false_iff.mpr c93
               subst c93
               rw [if_neg (show ¬ (false = true) by decide)] at H
               obtain ⟨ji94, hji94⟩ : ∃ j_ : Int, (mx ji6 (wrap64 (x14_3 + 1))) = j_ := ⟨_, rfl⟩
               replace H : ((crierref6_fill.f kj81 x6_3 (ji94)).bind fun t374 => (if 0 ≤ x14_3 then (if x14_3 < (t374.length : Int) then ((crierref6_shows.f kj81 (t374.set (x14_3 : Int).toNat (⟨#[97]⟩ : ByteArray)) a0 a1).bind fun bt378 => (if bt378.2 = true then (some (bt378.1, true)) else (crierref6_Outside.l1 kj81 a0 a1 x6_3 t335 ji6 x11_3 (wrap64 (x14_3 + 1))))) else (none)) else (none))) = some (r1, r2) := by first | (rw [hji94] at H; exact H) | (simp only [hji94] at H ⊢; exact H)
               have hji94_ : (if ji6 < (wrap64 (x14_3 + 1)) then (wrap64 (x14_3 + 1)) else ji6) = ji94 := hji94
               replace H := Option.bind_eq_some_iff.mp H
               obtain ⟨t374, A950, H⟩ := H
               try dsimp only at H
               have A95 := am A950
               clear A950
               by_cases c96 : 0 ≤ x14_3
               ·rw [if_pos c96] at H
                have c96b0 : decide (0 ≤ x14_3) = true := decide_eq_true c96
                clear c96
                by_cases c97 : x14_3 < (t374.length : Int)
                ·rw [if_pos c97] at H
                 have c97b0 : decide (x14_3 < (t374.length : Int)) = true := decide_eq_true c97
                 clear c97
                 obtain ⟨y377, hy377⟩ : ∃ y_ : List ByteArray, y_ = (t374.set (x14_3 : Int).toNat (⟨#[97]⟩ : ByteArray)) := ⟨_, rfl⟩
                 replace H : ((crierref6_shows.f kj81 y377 a0 a1).bind fun bt378 => (if bt378.2 = true then (some (bt378.1, true)) else (crierref6_Outside.l1 kj81 a0 a1 x6_3 t335 ji6 x11_3 (wrap64 (x14_3 + 1))))) = some (r1, r2) := by first | (rw [hy377]; with_reducible exact H) | (have H2_ := (Option.bind_some _ _).symm.trans H; rw [hy377]; with_reducible exact H2_) | (have H2_ := (Option.bind_some _ _).symm.trans H; with_reducible exact H2_) | with_reducible exact H | (rw [hy377]; exact H) | exact H
                 have Ny377 := am hy377
                 clear hy377
                 replace H := Option.bind_eq_some_iff.mp H
                 obtain ⟨⟨t378, t379⟩, A990, H⟩ := H
                 try dsimp only at H
                 have A99 := am A990
                 clear A990
                 by_cases c100 : t379 = true
                 ·subst c100
                  rw [if_pos rfl] at H
                  simp only [Option.some.injEq, Prod.mk.injEq] at H
                  obtain ⟨rfl, rfl⟩ := H
                  go_wp2_with (first | ((with_reducible refine gate_callee (f := 100) rfl ?_); refine goesL_ (some 134) rfl rfl Tryz.func100 (by kernel_rfl) rfl #[.slice Ao39 x6_3.length co39, .int .i64 ji94] rfl (by (try simp only [List.map_toArray, List.map_cons, List.map_nil]); first | done | (simp only [hji94]; rfl) | rfl | (simp only [List.length_drop, List.length_take]; rfl)) ?_; (with_reducible refine (crierref6_fill.calls kj81 _ _ x6_3 ji94 t374 _ ?side1 ?side2 A95.out).mono ?_); (case side1 => repeat (first | exact (Kd.R_reads' HO_6.out).2.2 | (with_reducible refine Kd.C_alloc ?_ _) | (with_reducible refine Kd.C_drewN ?_ _) | (with_reducible refine Kd.C_drew ?_))); (case side2 => exact (Kd.R_reads' HO_6.out).2.1); rintro e w101 ⟨v375, rfl, ho0, hb⟩; refine ⟨_, rfl, ?_⟩; have n0_ := am (Kd.R_elder' (by (with_reducible repeat (first | apply ra | apply rn | apply rd)); exact HO_6.out) (Kd.R_base ho0) hb); have n1_ := am (Kd.R_elder' (by (with_reducible repeat (first | apply ra | apply rn | apply rd)); exact HO_11.out) (Kd.R_base ho0) hb); have n2_ := am (Kd.R_lower (Kd.R_new' (Kd.R_new' ho0 (Kd.R_lt (by (with_reducible repeat (first | apply ra | apply rn | apply rd)); exact HO_6.out))) (Kd.R_lt (by (with_reducible repeat (first | apply ra | apply rn | apply rd)); exact HO_11.out))) (below_size (by repeat (with_reducible first | exact HB.out | apply ba | apply bn | apply bd)))); have n3_ := am (below_step (by repeat (with_reducible first | exact HB.out | apply ba | apply bn | apply bd)) hb); clear HO_6; clear HO_11; clear HB; have HO_6 := n0_; have HO_11 := n1_; have HO376 := n2_; have HB := n3_; clear n0_ n1_ n2_ n3_; (try clear hb); (try clear ho0); have p98 : 0 ≤ (x14_3 : Int) := of_decide_eq_true (by assumption); have q98 : (x14_3 : Int) < ((t374.length : Int) : Int) := of_decide_eq_true (by assumption); obtain ⟨go98, co98, eo98, gb98, gl98, cl98, HG98⟩ := Kd.R_form HO376.out (by omega); (first | cases eo98 | (injection eo98 with ea_ en_ ec_; (first | subst ea_ | (injection ea_ with ea_; subst ea_)); subst ec_; clear en_)); have GB98 := am gb98; have GG98 := am HG98; clear gb98 gl98 HG98; obtain ⟨hx98_0, hf98_0⟩ := Kd.R_celln (⟨#[]⟩ : ByteArray) HO376.out (x14_3 : Int) p98 q98; replace p98 := eq_true p98; replace q98 := eq_true q98; have n_ := am (Kd.R_mono (ok' := (fun k_ => some k_ ≠ (.slice Ao39 x6_3.length co39 : Value).ownBlock ∧ some k_ ≠ (.slice Ao83 x11_3.length co83 : Value).ownBlock)) HO376.out (fun k_ hk => ⟨hk.1.2, hk.2⟩)); clear HO376; have HO376 := n_; clear n_; obtain ⟨hy102_, hz102_⟩ := Kd.R_celln (⟨#[]⟩ : ByteArray) HO376.out (x14_3 : Int) (of_decide_eq_true (by assumption)) (of_decide_eq_true (by assumption)); have HP102 := Kd.R_putg HO376.out (x14_3 : Int) (⟨#[97]⟩ : ByteArray)) | ((with_reducible refine gate_store (t := 9) (p := 137) rfl ?_); refine store_event (t := 9) (p := 137) (v := ?vo_w103) (w1 := (w101.setCell ⟨go98, (x14_3 : Int).toNat, none⟩ (.string (⟨#[97]⟩ : ByteArray)))) ?hg ?ho ?hn ?hr ?_; (case ho => rfl); (case hg => rfl); (case hn => rfl); (case hr => first | (go_simp; done) | (go_simp; rfl)); intro w103 hw; have hg : w101.grownBy w103 (some go98) := (by rw [hw]; exact HP102.2); have hp_ : Kd.R Kd.string 9 w103 w.heap.size (fun k_ => some k_ ≠ (.slice Ao39 x6_3.length co39 : Value).ownBlock ∧ some k_ ≠ (.slice Ao83 x11_3.length co83 : Value).ownBlock) (.slice (some ⟨go98, 0, none⟩) t374.length co98) y377 := (by rw [hw, Ny377.out]; exact HP102.1); clear HP102; have n0_ := am (Kd.R_after (v := (.slice (some ⟨go98, 0, none⟩) t374.length co98)) (v1 := (.slice (some ⟨go98, 0, none⟩) t374.length co98)) (ok := (fun k_ => some k_ ≠ (.slice Ao83 x11_3.length co83 : Value).ownBlock)) (by (with_reducible repeat (first | apply ra | apply rn | apply rd)); exact HO_6.out) hg (.inl rfl)); have n1_ := am (Kd.R_after (v := (.slice (some ⟨go98, 0, none⟩) t374.length co98)) (v1 := (.slice (some ⟨go98, 0, none⟩) t374.length co98)) (ok := (fun k_ => some k_ ≠ (.slice Ao39 x6_3.length co39 : Value).ownBlock)) (by (with_reducible repeat (first | apply ra | apply rn | apply rd)); exact HO_11.out) hg (.inl rfl)); have n2_ := am (hp_); have n3_ := am ((by rw [hw]; exact below_set (HB.out) GB98.out : Below w.heap.size w w103)); clear HO_6; clear HO_11; clear HO376; clear HB; have HO_6 := n0_; have HO_11 := n1_; have HO376 := n2_; have HB := n3_; clear n0_ n1_ n2_ n3_; clear hg hw hp_) | ((with_reducible refine gate_callee (f := 98) rfl ?_); refine goesL_ (some 142) rfl rfl Tryz.func98 (by kernel_rfl) rfl #[.slice (some ⟨go98, 0, none⟩) y377.length co98, .string a0, .string a1] rfl (by (try simp only [List.map_toArray, List.map_cons, List.map_nil]); first | done | (rw [show y377.length = t374.length from (Kd.R_reads' HO376.out).1.symm] <;> rfl) | rfl | (simp only [List.length_drop, List.length_take]; rfl)) ?_; (with_reducible refine (crierref6_shows.calls kj81 _ _ y377 a0 a1 t378 true _ ?side1 ?side2 A99.out).mono ?_); (case side1 => repeat (first | exact (Kd.R_reads' HO376.out).2.2 | (with_reducible refine Kd.C_alloc ?_ _) | (with_reducible refine Kd.C_drewN ?_ _) | (with_reducible refine Kd.C_drew ?_))); (case side2 => rw [show y377.length = t374.length from (Kd.R_reads' HO376.out).1.symm]; exact (Kd.R_reads' HO376.out).2.1); rintro e w104 ⟨rfl, hb⟩; refine ⟨_, rfl, ?_⟩; have n0_ := am (Kd.R_below (by (with_reducible repeat (first | apply ra | apply rn | apply rd)); exact HO_6.out) hb); have n1_ := am (Kd.R_below (by (with_reducible repeat (first | apply ra | apply rn | apply rd)); exact HO_11.out) hb); have n2_ := am (Kd.R_below (by (with_reducible repeat (first | apply ra | apply rn | apply rd)); exact HO376.out) hb); have n3_ := am (below_step (by repeat (with_reducible first | exact HB.out | apply ba | apply bn | apply bd)) hb); clear HO_6; clear HO_11; clear HO376; clear HB; have HO_6 := n0_; have HO_11 := n1_; have HO376 := n2_; have HB := n3_; clear n0_ n1_ n2_ n3_; (try clear hb)))
                  go_ret2
                  exact ⟨by first | rfl | (simp [errW_none, errW_some] <;> rfl) | (simp only [← hji6, ← hji94]; first | rfl | (simp [errW_none, errW_some] <;> rfl)) | (simp [*, errW_none, errW_some] <;> rfl), by repeat (with_reducible first | exact HB.out | apply ba | apply bn | apply bd)⟩
                 ·replace c100 := Bool.eq_false_iff.mpr c100
                  subst c100
                  rw [if_neg (show ¬ (false = true) by decide)] at H
                  have H' := am H
                  clear H
                  go_wp2_with (first | ((with_reducible refine gate_callee (f := 100) rfl ?_); refine goesL_ (some 134) rfl rfl Tryz.func100 (by kernel_rfl) rfl #[.slice Ao39 x6_3.length co39, .int .i64 ji94] rfl (by (try simp only [List.map_toArray, List.map_cons, List.map_nil]); first | done | (simp only [hji94]; rfl) | rfl | (simp only [List.length_drop, List.length_take]; rfl)) ?_; (with_reducible refine (crierref6_fill.calls kj81 _ _ x6_3 ji94 t374 _ ?side1 ?side2 A95.out).mono ?_); (case side1 => repeat (first | exact (Kd.R_reads' HO_6.out).2.2 | (with_reducible refine Kd.C_alloc ?_ _) | (with_reducible refine Kd.C_drewN ?_ _) | (with_reducible refine Kd.C_drew ?_))); (case side2 => exact (Kd.R_reads' HO_6.out).2.1); rintro e w105 ⟨v375, rfl, ho0, hb⟩; refine ⟨_, rfl, ?_⟩; have n0_ := am (Kd.R_elder' (by (with_reducible repeat (first | apply ra | apply rn | apply rd)); exact HO_6.out) (Kd.R_base ho0) hb); have n1_ := am (Kd.R_elder' (by (with_reducible repeat (first | apply ra | apply rn | apply rd)); exact HO_11.out) (Kd.R_base ho0) hb); have n2_ := am (Kd.R_lower (Kd.R_new' (Kd.R_new' ho0 (Kd.R_lt (by (with_reducible repeat (first | apply ra | apply rn | apply rd)); exact HO_6.out))) (Kd.R_lt (by (with_reducible repeat (first | apply ra | apply rn | apply rd)); exact HO_11.out))) (below_size (by repeat (with_reducible first | exact HB.out | apply ba | apply bn | apply bd)))); have n3_ := am (below_step (by repeat (with_reducible first | exact HB.out | apply ba | apply bn | apply bd)) hb); clear HO_6; clear HO_11; clear HB; have HO_6 := n0_; have HO_11 := n1_; have HO376 := n2_; have HB := n3_; clear n0_ n1_ n2_ n3_; (try clear hb); (try clear ho0); have p98 : 0 ≤ (x14_3 : Int) := of_decide_eq_true (by assumption); have q98 : (x14_3 : Int) < ((t374.length : Int) : Int) := of_decide_eq_true (by assumption); obtain ⟨go98, co98, eo98, gb98, gl98, cl98, HG98⟩ := Kd.R_form HO376.out (by omega); (first | cases eo98 | (injection eo98 with ea_ en_ ec_; (first | subst ea_ | (injection ea_ with ea_; subst ea_)); subst ec_; clear en_)); have GB98 := am gb98; have GG98 := am HG98; clear gb98 gl98 HG98; obtain ⟨hx98_0, hf98_0⟩ := Kd.R_celln (⟨#[]⟩ : ByteArray) HO376.out (x14_3 : Int) p98 q98; replace p98 := eq_true p98; replace q98 := eq_true q98; have n_ := am (Kd.R_mono (ok' := (fun k_ => some k_ ≠ (.slice Ao39 x6_3.length co39 : Value).ownBlock ∧ some k_ ≠ (.slice Ao83 x11_3.length co83 : Value).ownBlock)) HO376.out (fun k_ hk => ⟨hk.1.2, hk.2⟩)); clear HO376; have HO376 := n_; clear n_; obtain ⟨hy106_, hz106_⟩ := Kd.R_celln (⟨#[]⟩ : ByteArray) HO376.out (x14_3 : Int) (of_decide_eq_true (by assumption)) (of_decide_eq_true (by assumption)); have HP106 := Kd.R_putg HO376.out (x14_3 : Int) (⟨#[97]⟩ : ByteArray)) | ((with_reducible refine gate_store (t := 9) (p := 137) rfl ?_); refine store_event (t := 9) (p := 137) (v := ?vo_w107) (w1 := (w105.setCell ⟨go98, (x14_3 : Int).toNat, none⟩ (.string (⟨#[97]⟩ : ByteArray)))) ?hg ?ho ?hn ?hr ?_; (case ho => rfl); (case hg => rfl); (case hn => rfl); (case hr => first | (go_simp; done) | (go_simp; rfl)); intro w107 hw; have hg : w105.grownBy w107 (some go98) := (by rw [hw]; exact HP106.2); have hp_ : Kd.R Kd.string 9 w107 w.heap.size (fun k_ => some k_ ≠ (.slice Ao39 x6_3.length co39 : Value).ownBlock ∧ some k_ ≠ (.slice Ao83 x11_3.length co83 : Value).ownBlock) (.slice (some ⟨go98, 0, none⟩) t374.length co98) y377 := (by rw [hw, Ny377.out]; exact HP106.1); clear HP106; have n0_ := am (Kd.R_after (v := (.slice (some ⟨go98, 0, none⟩) t374.length co98)) (v1 := (.slice (some ⟨go98, 0, none⟩) t374.length co98)) (ok := (fun k_ => some k_ ≠ (.slice Ao83 x11_3.length co83 : Value).ownBlock)) (by (with_reducible repeat (first | apply ra | apply rn | apply rd)); exact HO_6.out) hg (.inl rfl)); have n1_ := am (Kd.R_after (v := (.slice (some ⟨go98, 0, none⟩) t374.length co98)) (v1 := (.slice (some ⟨go98, 0, none⟩) t374.length co98)) (ok := (fun k_ => some k_ ≠ (.slice Ao39 x6_3.length co39 : Value).ownBlock)) (by (with_reducible repeat (first | apply ra | apply rn | apply rd)); exact HO_11.out) hg (.inl rfl)); have n2_ := am (hp_); have n3_ := am ((by rw [hw]; exact below_set (HB.out) GB98.out : Below w.heap.size w w107)); clear HO_6; clear HO_11; clear HO376; clear HB; have HO_6 := n0_; have HO_11 := n1_; have HO376 := n2_; have HB := n3_; clear n0_ n1_ n2_ n3_; clear hg hw hp_) | ((with_reducible refine gate_callee (f := 98) rfl ?_); refine goesL_ (some 142) rfl rfl Tryz.func98 (by kernel_rfl) rfl #[.slice (some ⟨go98, 0, none⟩) y377.length co98, .string a0, .string a1] rfl (by (try simp only [List.map_toArray, List.map_cons, List.map_nil]); first | done | (rw [show y377.length = t374.length from (Kd.R_reads' HO376.out).1.symm] <;> rfl) | rfl | (simp only [List.length_drop, List.length_take]; rfl)) ?_; (with_reducible refine (crierref6_shows.calls kj81 _ _ y377 a0 a1 t378 false _ ?side1 ?side2 A99.out).mono ?_); (case side1 => repeat (first | exact (Kd.R_reads' HO376.out).2.2 | (with_reducible refine Kd.C_alloc ?_ _) | (with_reducible refine Kd.C_drewN ?_ _) | (with_reducible refine Kd.C_drew ?_))); (case side2 => rw [show y377.length = t374.length from (Kd.R_reads' HO376.out).1.symm]; exact (Kd.R_reads' HO376.out).2.1); rintro e w108 ⟨rfl, hb⟩; refine ⟨_, rfl, ?_⟩; have n0_ := am (Kd.R_below (by (with_reducible repeat (first | apply ra | apply rn | apply rd)); exact HO_6.out) hb); have n1_ := am (Kd.R_below (by (with_reducible repeat (first | apply ra | apply rn | apply rd)); exact HO_11.out) hb); have n2_ := am (Kd.R_below (by (with_reducible repeat (first | apply ra | apply rn | apply rd)); exact HO376.out) hb); have n3_ := am (below_step (by repeat (with_reducible first | exact HB.out | apply ba | apply bn | apply bd)) hb); clear HO_6; clear HO_11; clear HO376; clear HB; have HO_6 := n0_; have HO_11 := n1_; have HO376 := n2_; have HB := n3_; clear n0_ n1_ n2_ n3_; (try clear hb)))
                  (try simp only [← hl6_3])
                  go_roundg kj81
                  case measure => have := HJ35.out; have := HJ62.out; have := HK3.out; have := HJ81.out; omega
                  case rel => exact ⟨(x6_3), (x11_3), (wrap64 (x14_3 + 1)), (by first | rfl | (simp; done) | (simp [*]; done)), H', ⟨by have := HJ35.out; have := HJ62.out; have := HK3.out; have := HJ81.out; omega⟩, ⟨by (try simp only [hl6_3]); (with_reducible repeat (first | apply ra | apply rn | apply rd)); exact Kd.R_mono HO_6.out (fun _ hk => hk.1)⟩, ⟨by (try simp only [hl6_3]); (with_reducible repeat (first | apply ra | apply rn | apply rd)); exact Kd.R_mono HO_11.out (fun _ hk => hk.1)⟩, ⟨by repeat (with_reducible first | exact HB.out | apply ba | apply bn | apply bd)⟩⟩
                ·rw [if_neg c97] at H
                 exact absurd H (by simp)
               ·rw [if_neg c96] at H
                exact absurd H (by simp)
           ·rw [if_neg c81] at H
            have c81b0 : decide (x14_3 < (x11_3.length : Int)) = false := decide_eq_false c81
            clear c81
            simp only [Option.some.injEq, Prod.mk.injEq] at H
            obtain ⟨rfl, rfl⟩ := H
            obtain ⟨Ao109, co109, eo109⟩ := Kd.R_slice HO_11.out
            subst eo109
            go_wp2
            go_ret2
            exact ⟨by first | rfl | (simp [errW_none, errW_some] <;> rfl) | (simp only [← hji6]; first | rfl | (simp [errW_none, errW_some] <;> rfl)) | (simp [*, errW_none, errW_some] <;> rfl), by repeat (with_reducible first | exact HB.out | apply ba | apply bn | apply bd)⟩
      ·replace c61 := Bool.eq_false_iff.mpr c61
       subst c61
       rw [if_neg (show ¬ (false = true) by decide)] at H
       simp only [Option.some.injEq, Prod.mk.injEq] at H
       obtain ⟨rfl, rfl⟩ := H
       go_wp2_with (first | ((with_reducible refine gate_callee (f := 96) rfl ?_); refine goesL_ (some 65) rfl rfl Tryz.func96 (by kernel_rfl) rfl #[.string a1] rfl (by (try simp only [List.map_toArray, List.map_cons, List.map_nil]); first | done | rfl | (simp only [List.length_drop, List.length_take]; rfl)) ?_; (with_reducible refine (crierref5_Plain.calls kj35 a1 false _ A60.out).mono ?_); rintro e w110 ⟨rfl, hb⟩; refine ⟨_, rfl, ?_⟩; have n0_ := am (Kd.R_below (by (with_reducible repeat (first | apply ra | apply rn | apply rd)); exact HO_6.out) hb); have n1_ := am (below_step (by repeat (with_reducible first | exact HB.out | apply ba | apply bn | apply bd)) hb); clear HO_6; clear HB; have HO_6 := n0_; have HB := n1_; clear n0_ n1_; (try clear hb)))
       go_ret2
       exact ⟨by first | rfl | (simp [errW_none, errW_some] <;> rfl) | (simp only [← hji6]; first | rfl | (simp [errW_none, errW_some] <;> rfl)) | (simp [*, errW_none, errW_some] <;> rfl), by repeat (with_reducible first | exact HB.out | apply ba | apply bn | apply bd)⟩
 ·replace c4 := Bool.eq_false_iff.mpr c4
  subst c4
  rw [if_neg (show ¬ (false = true) by decide)] at H
  simp only [Option.some.injEq, Prod.mk.injEq] at H
  obtain ⟨rfl, rfl⟩ := H
  go_enter Tryz.func61, Tryz.ntmps61
  go_wp2_with (first | ((with_reducible refine gate_callee (f := 96) rfl ?_); refine goesL_ (some 17) rfl rfl Tryz.func96 (by kernel_rfl) rfl #[.string a0] rfl (by (try simp only [List.map_toArray, List.map_cons, List.map_nil]); first | done | rfl | (simp only [List.length_drop, List.length_take]; rfl)) ?_; (with_reducible refine (crierref5_Plain.calls k a0 false _ A3.out).mono ?_); rintro e w111 ⟨rfl, hb⟩; refine ⟨_, rfl, ?_⟩; have n0_ := am (below_step (by repeat (with_reducible first | exact HB.out | apply ba | apply bn | apply bd)) hb); clear HB; have HB := n0_; clear n0_; (try clear hb)))
  go_ret2
  exact ⟨by first | rfl | (simp [*] <;> rfl), by repeat (with_reducible first | exact HB.out | apply ba | apply bn | apply bd)⟩

end Go.Proofs.YtfomjbbebgajcaaGreatDoor.MCoverLeast
