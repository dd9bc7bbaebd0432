/- crierkept.Book: hold.. of a kind that is used. -/
import Derived.Test.YtfomjbbebgajcaaGreatDoorKr
import Derived.Test.YtfomjbbebgajcaaGreatDoorBw
import Derived.Test.YtfomjbbebgajcaaGreatDoorBs
namespace Go.Proofs.YtfomjbbebgajcaaGreatDoor.Rm
open Go.RowKit Go.Proofs.YtfomjbbebgajcaaGreatDoorW.PrintWords Go.Proofs.YtfomjbbebgajcaaGreatDoorW.PrintLast Go.Proofs.YtfomjbbebgajcaaGreatDoorW.PrintMore Go.Proofs.YtfomjbbebgajcaaGreatDoor.MCoverLeast
open Go.Act renaming put → zp
open List renaming setIfInBounds_toArray → zi, set_cons_zero → zz, set_cons_succ → zs
open Go.Proofs.YtfomjbbebgajcaaGreatDoorW.PrintWords.Aside0 renaming mk → am
set_option linter.unusedVariables false
set_option linter.unusedSimpArgs false
set_option maxHeartbeats 4000000
set_option maxRecDepth 100000
theorem Bst.rowP {et : Nat → TypeId} {tB base g n : Nat} {F : (Nat → Nat) → World → Prop} {bad : Bool} {turn deep : Int} {seen : Nat → Int} {L : Nat → Nat} {w : World} {N : Nat} {cs : Array Value} {D : Nat → List Value} {xs : List Value} (h : Bst et tB base g F bad turn deep seen L w N cs D) {i : Nat} (hi : i < 168) {s : Nat} (hs : slot i = s) (hx : D i = xs) (hn : xs.length = n) :
  ∃ A c, w.cell? ⟨g, s, none⟩ = some (.slice A n c) ∧ ∀ (j : Nat) (v : Value), xs[j]? = some v → ∃ b, A = some ⟨b, 0, none⟩ ∧ w.cell? ⟨b, j, none⟩ = some v := by
 obtain ⟨A, c, h1, h2, _⟩ := h.rowN hi hs hx hn
 refine ⟨A, c, h2, fun j v hj => ?_⟩
 obtain ⟨b, c', h3, h4, _, h5⟩ := h.rowB hi hs hx hn (by have := (List.getElem?_eq_some_iff.1 hj).1; omega)
 rw [h1] at h3
 injection h3 with h3
 injection h3 with h3
 exact ⟨b, h3, h5 j v hj⟩
theorem row_at {w W : World} {A : Option Addr} {xs : List Value} (h : ∀ (j : Nat) (v : Value), xs[j]? = some v → ∃ b, A = some ⟨b, 0, none⟩ ∧ w.cell? ⟨b, j, none⟩ = some v) (hb : Below w.heap.size w W) {j : Nat} {v : Value} (hj : xs[j]? = some v) : ∃ b, A = some ⟨b, 0, none⟩ ∧ W.cell? ⟨b, j, none⟩ = some v := by
 obtain ⟨b, h1, h2⟩ := h j v hj
 exact ⟨b, h1, pw_cell_below hb h2⟩

theorem holdTexts_calls (L : Nat → Nat) (base g N : Nat) (w : World) (cs : Array Value) (D : Nat → List Value) {F : (Nat → Nat) → World → Prop} {bad : Bool} {turn deep : Int} {seen : Nat → Int} {M : Nat} {ps os : List (Value × Value)} {fs : List Value} {mq dq fr : List Int} (h : Bst bkT 55 base g F bad turn deep seen L w N cs D) (hK : Kr Kd.string 9 base 1002 L w ps os fs) (hD : Dsh 2 M D ps os fs mq dq fr) (hM : M ≤ 1073741824) : Calls Tryz.prog 22 #[.pointer (some ⟨g, 0, none⟩)] w fun e w' => e = .returned (.bool true) ∧ Below w.heap.size w w' := by
 obtain ⟨A0, c0, q0, z0⟩ := h.rowP (i := 16) (by decide) (s := 22) rfl hD.out (n := os.length) (by simp); have HQ0 := am q0; have HZ0 := am z0; clear z0
 obtain ⟨A1, c1, q1, z1⟩ := h.rowP (i := 17) (by decide) (s := 23) rfl hD.told (n := os.length) (by simp); have HQ1 := am q1; have HZ1 := am z1; clear z1
 obtain ⟨A2, c2, q2, z2⟩ := h.rowP (i := 18) (by decide) (s := 24) rfl hD.waits (n := ps.length) (by simp); have HQ2 := am q2; have HZ2 := am z2; clear z2
 obtain ⟨A3, c3, q3, z3⟩ := h.rowP (i := 19) (by decide) (s := 25) rfl hD.note (n := ps.length) (by simp); have HQ3 := am q3; have HZ3 := am z3; clear z3
 have ho_ : os.length ≤ 1073741824 := by have := hD.le; omega
 have hp_ : ps.length ≤ 1073741824 := by have := hD.le; omega
 have HKr := am hK; have HB := am (Below.refl w.heap.size w)
 clear h hK hD
 go_enter Tryz.func22, Tryz.ntmps22
 go_wp2
 go_loopw [3] (fun i wr => ∃ k : Nat, k ≤ os.length ∧ i = .int .i64 k ∧ Aside0 (Below w.heap.size w wr)) (fun i _ => os.length - (intOf i).toNat)
 case atStart => exact ⟨0, Nat.zero_le _, rfl, HB⟩
 case round =>
  clear HB q0 q1 q2 q3
  obtain ⟨k, hk, rfl, HB⟩ := hrel
  obtain ⟨wo, hwo⟩ : ∃ x, x = wr := ⟨_, rfl⟩; subst hwo
  have q0 := pw_cell_below HB.out HQ0.out; have q1 := pw_cell_below HB.out HQ1.out; have q2 := pw_cell_below HB.out HQ2.out; have q3 := pw_cell_below HB.out HQ3.out
  by_cases hlt : k < os.length
  ·obtain ⟨p, hp⟩ : ∃ p, os[k]? = some p := ⟨_, List.getElem?_eq_getElem hlt⟩
   obtain ⟨xs, hxl, hls, hcp⟩ := HKr.out.ot p (List.mem_of_getElem? hp); have h0_ := map_at Prod.fst hp; have h1_ := map_at Prod.snd hp; obtain ⟨v, u⟩ := p; obtain ⟨Al, cl, e_, hlc⟩ := hls.slice_; subst e_; obtain ⟨Au, cu, e_, hcu, hfu⟩ := hcp; subst e_
   have R1 := am (Kd.C_below (ls_C hls) HB.out); have R2 := am (Kd.C_below hfu.now HB.out); have HXL := am hxl
   obtain ⟨ba, e_, y0⟩ := row_at HZ0.out HB.out h0_; subst e_; obtain ⟨bb, e_, y1⟩ := row_at HZ1.out HB.out h1_; subst e_; have Y0 := am y0; have Y1 := am y1; have Z0 := am q0; have Z1 := am q1; clear hls hfu hcu hlc hxl h0_ h1_ y0 y1
   go_upto_region 4 with (fail)
   clear q0 q1 q2 q3
   refine wp_region_noPanic ?_
   refine wp_region_last_drew (S := fun W => Below wo.heap.size wo W) (ds := []) (by kernel_rfl) ?hS0 (fun hHeld => ?_)
   case hS0 => exact (Below.refl _ _).drew
   refine tk 0 hHeld ?_
   try simp only [zp, zi, zz, zs]
   refine tk 1 hHeld ?_
   try simp only [zp, zi, zz, zs]
   refine tk 2 hHeld ?_
   try simp only [zp, zi, zz, zs]
   refine tk 3 hHeld ?_ (hy := fun w_ hSw => by (try dsimp only at hSw); have Y0__ := pw_cell_below hSw Y0.out; have Y1__ := pw_cell_below hSw Y1.out; have Z0__ := pw_cell_below hSw Z0.out; have Z1__ := pw_cell_below hSw Z1.out; (try go_simp); (try with_reducible rfl))
   try simp only [zp, zi, zz, zs]
   refine tk 4 hHeld ?_
   try simp only [zp, zi, zz, zs]
   refine tk 5 hHeld ?_
   try simp only [zp, zi, zz, zs]
   refine tk 6 hHeld ?_ (hy := fun w_ hSw => by (try dsimp only at hSw); have Y0__ := pw_cell_below hSw Y0.out; have Y1__ := pw_cell_below hSw Y1.out; have Z0__ := pw_cell_below hSw Z0.out; have Z1__ := pw_cell_below hSw Z1.out; (try go_simp); (try with_reducible rfl))
   try simp only [zp, zi, zz, zs]
   refine tk 7 hHeld ?_
   try simp only [zp, zi, zz, zs]
   refine tk 8 hHeld ?_
   try simp only [zp, zi, zz, zs]
   refine tk 9 hHeld ?_
   try simp only [zp, zi, zz, zs]
   refine tk 10 hHeld ?_ (hy := fun w_ hSw => by (try dsimp only at hSw); have Y0__ := pw_cell_below hSw Y0.out; have Y1__ := pw_cell_below hSw Y1.out; have Z0__ := pw_cell_below hSw Z0.out; have Z1__ := pw_cell_below hSw Z1.out; (try go_simp); (try with_reducible rfl))
   try simp only [zp, zi, zz, zs]
   refine tk 11 hHeld ?_
   try simp only [zp, zi, zz, zs]
   refine tk 12 hHeld ?_
   try simp only [zp, zi, zz, zs]
   refine tk 13 hHeld ?_ (hy := fun w_ hSw => by (try dsimp only at hSw); have Y0__ := pw_cell_below hSw Y0.out; have Y1__ := pw_cell_below hSw Y1.out; have Z0__ := pw_cell_below hSw Z0.out; have Z1__ := pw_cell_below hSw Z1.out; (try go_simp); (try with_reducible rfl))
   try simp only [zp, zi, zz, zs]
   refine t1 14 (fun K hK => ?_)
   refine call_event (by rfl) 66 #[.slice Al xs.length cl, .slice Au xs.length cu] (by first | rfl | (go_simp; done) | (go_simp; rfl)) (sameTexts_calls Al Au cl cu xs _ (Kd.C_below R1.out hHeld) (Kd.C_below R2.out hHeld) (by have := HXL.out; omega)) (fun e wA_ hp => ?_)
   obtain ⟨he, hb⟩ := hp; subst he; refine ⟨_, rfl, ?_⟩; have hSn := below_step hHeld hb; clear hb
   refine hK.out _ _ hSn (fun hHeld2 => ?_)
   clear hK K hHeld hSn; have hHeld := hHeld2; clear hHeld2
   try simp only [zp, zi, zz, zs]
   refine tk 15 hHeld ?_
   try simp only [zp, zi, zz, zs]
   refine wpAnyLast_done (by kernel_rfl) ?_ _
   refine NoPanic.normal ?_
   go_wp2
   go_roundw
   case rel => exact ⟨k + 1, by omega, by go_num, ⟨below_step HB.out hHeld⟩⟩
   case measure => simp [intOf]; omega
  ·obtain rfl : k = os.length := by omega
   go_wp2
   go_loopw [4] (fun i wr => ∃ k : Nat, k ≤ ps.length ∧ i = .int .i64 k ∧ Aside0 (Below w.heap.size w wr)) (fun i _ => ps.length - (intOf i).toNat)
   case atStart => exact ⟨0, Nat.zero_le _, rfl, HB⟩
   case round =>
    clear HB q0 q1 q2 q3
    obtain ⟨k, hk, rfl, HB⟩ := hrel
    obtain ⟨wo, hwo⟩ : ∃ x, x = wr := ⟨_, rfl⟩; subst hwo
    have q0 := pw_cell_below HB.out HQ0.out; have q1 := pw_cell_below HB.out HQ1.out; have q2 := pw_cell_below HB.out HQ2.out; have q3 := pw_cell_below HB.out HQ3.out
    by_cases hlt : k < ps.length
    ·obtain ⟨p, hp⟩ : ∃ p, ps[k]? = some p := ⟨_, List.getElem?_eq_getElem hlt⟩
     obtain ⟨xs, hxl, hls, hcp⟩ := HKr.out.wn p (List.mem_of_getElem? hp); have h0_ := map_at Prod.fst hp; have h1_ := map_at Prod.snd hp; obtain ⟨v, u⟩ := p; obtain ⟨Al, cl, e_, hlc⟩ := hls.slice_; subst e_; obtain ⟨Au, cu, e_, hcu, hfu⟩ := hcp; subst e_
     have R1 := am (Kd.C_below (ls_C hls) HB.out); have R2 := am (Kd.C_below hfu.now HB.out); have HXL := am hxl
     obtain ⟨ba, e_, y0⟩ := row_at HZ2.out HB.out h0_; subst e_; obtain ⟨bb, e_, y1⟩ := row_at HZ3.out HB.out h1_; subst e_; have Y0 := am y0; have Y1 := am y1; have Z0 := am q2; have Z1 := am q3; clear hls hfu hcu hlc hxl h0_ h1_ y0 y1
     go_upto_region 9 with (fail)
     clear q0 q1 q2 q3
     refine wp_region_noPanic ?_
     refine wp_region_last_drew (S := fun W => Below wo.heap.size wo W) (ds := []) (by kernel_rfl) ?hS0 (fun hHeld => ?_)
     case hS0 => exact (Below.refl _ _).drew
     refine tk 0 hHeld ?_
     try simp only [zp, zi, zz, zs]
     refine tk 1 hHeld ?_
     try simp only [zp, zi, zz, zs]
     refine tk 2 hHeld ?_
     try simp only [zp, zi, zz, zs]
     refine tk 3 hHeld ?_ (hy := fun w_ hSw => by (try dsimp only at hSw); have Y0__ := pw_cell_below hSw Y0.out; have Y1__ := pw_cell_below hSw Y1.out; have Z0__ := pw_cell_below hSw Z0.out; have Z1__ := pw_cell_below hSw Z1.out; (try go_simp); (try with_reducible rfl))
     try simp only [zp, zi, zz, zs]
     refine tk 4 hHeld ?_
     try simp only [zp, zi, zz, zs]
     refine tk 5 hHeld ?_
     try simp only [zp, zi, zz, zs]
     refine tk 6 hHeld ?_ (hy := fun w_ hSw => by (try dsimp only at hSw); have Y0__ := pw_cell_below hSw Y0.out; have Y1__ := pw_cell_below hSw Y1.out; have Z0__ := pw_cell_below hSw Z0.out; have Z1__ := pw_cell_below hSw Z1.out; (try go_simp); (try with_reducible rfl))
     try simp only [zp, zi, zz, zs]
     refine tk 7 hHeld ?_
     try simp only [zp, zi, zz, zs]
     refine tk 8 hHeld ?_
     try simp only [zp, zi, zz, zs]
     refine tk 9 hHeld ?_
     try simp only [zp, zi, zz, zs]
     refine tk 10 hHeld ?_ (hy := fun w_ hSw => by (try dsimp only at hSw); have Y0__ := pw_cell_below hSw Y0.out; have Y1__ := pw_cell_below hSw Y1.out; have Z0__ := pw_cell_below hSw Z0.out; have Z1__ := pw_cell_below hSw Z1.out; (try go_simp); (try with_reducible rfl))
     try simp only [zp, zi, zz, zs]
     refine tk 11 hHeld ?_
     try simp only [zp, zi, zz, zs]
     refine tk 12 hHeld ?_
     try simp only [zp, zi, zz, zs]
     refine tk 13 hHeld ?_ (hy := fun w_ hSw => by (try dsimp only at hSw); have Y0__ := pw_cell_below hSw Y0.out; have Y1__ := pw_cell_below hSw Y1.out; have Z0__ := pw_cell_below hSw Z0.out; have Z1__ := pw_cell_below hSw Z1.out; (try go_simp); (try with_reducible rfl))
     try simp only [zp, zi, zz, zs]
     refine t1 14 (fun K hK => ?_)
     refine call_event (by rfl) 66 #[.slice Al xs.length cl, .slice Au xs.length cu] (by first | rfl | (go_simp; done) | (go_simp; rfl)) (sameTexts_calls Al Au cl cu xs _ (Kd.C_below R1.out hHeld) (Kd.C_below R2.out hHeld) (by have := HXL.out; omega)) (fun e wA_ hp => ?_)
     obtain ⟨he, hb⟩ := hp; subst he; refine ⟨_, rfl, ?_⟩; have hSn := below_step hHeld hb; clear hb
     refine hK.out _ _ hSn (fun hHeld2 => ?_)
     clear hK K hHeld hSn; have hHeld := hHeld2; clear hHeld2
     try simp only [zp, zi, zz, zs]
     refine tk 15 hHeld ?_
     try simp only [zp, zi, zz, zs]
     refine wpAnyLast_done (by kernel_rfl) ?_ _
     refine NoPanic.normal ?_
     go_wp2
     go_roundw
     case rel => exact ⟨k + 1, by omega, by go_num, ⟨below_step HB.out hHeld⟩⟩
     case measure => simp [intOf]; omega
    ·obtain rfl : k = ps.length := by omega
     go_wp2
     go_ret
     exact ⟨rfl, HB.out⟩
end Go.Proofs.YtfomjbbebgajcaaGreatDoor.Rm
