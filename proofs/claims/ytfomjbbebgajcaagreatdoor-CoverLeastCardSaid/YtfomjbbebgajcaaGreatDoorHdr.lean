/- crierroom.Room: no mark is written over: hold.., Hold. -/
import Derived.Test.YtfomjbbebgajcaaGreatDoorLy
import Derived.BigQuiet
import Derived.IntWalk
import Derived.Deep.QuietTactic
namespace Go.Proofs.YtfomjbbebgajcaaGreatDoor.Rm
open Go.RowKit Go.Proofs.YtfomjbbebgajcaaGreatDoorW.PrintWords Go.Proofs.YtfomjbbebgajcaaGreatDoorW.PrintLast Go.Proofs.YtfomjbbebgajcaaGreatDoorW.PrintMore Go.Proofs.YtfomjbbebgajcaaGreatDoor.MCoverLeast
open Go.Proofs.YtfomjbbebgajcaaGreatDoorW.PrintWords.Aside0 renaming mk → am
set_option linter.unusedVariables false
set_option linter.unusedSimpArgs false
set_option maxHeartbeats 2000000
set_option maxRecDepth 100000
theorem rhold_at {kd : Kind} {ti : TypeId} {x base N len cv cu : Nat} {L : Nat → Nat} {w : World} {Av Au : Option Addr} {ps : List (Value × Int)} (h : Two kd ti x L base w N (.slice Av ps.length cv) (.slice Au ps.length cu) ps) (hlen : len = ps.length) (k : Nat) (hk : k < len) :
  ∃ b m c n gv gu, Av = some ⟨gv, 0, none⟩ ∧ Au = some ⟨gu, 0, none⟩ ∧ n ≤ m ∧ m ≤ c ∧ m ≤ 140737488355328 ∧ w.cell? ⟨gv, k, none⟩ = some (.slice (some ⟨b, 0, none⟩) m c) ∧ w.cell? ⟨gu, k, none⟩ = some (.int .i64 (n : Nat)) ∧ ∀ q, n + q < m → ∃ ce, kd.mrk q ce ∧ ∀ (r : Nat) (u : Value), ce[r]? = some u → w.cell? ⟨b, (n + q) * kd.sz + r, none⟩ = some u := by
 subst hlen
 obtain ⟨gv, c1, e1, _, _⟩ := h.ov.form (by omega)
 obtain ⟨gu, c2, e2, _, _⟩ := h.ou.form (by omega)
 injection e1 with e1 _ _
 injection e2 with e2 _ _
 subst e1 e2
 obtain ⟨b, m, c, n, cur, h1, h2, h3, h4, h4', h5, h6, h7⟩ := h.inn k _ (List.getElem?_eq_getElem hk)
 refine ⟨b, m, c, n, gv, gu, rfl, rfl, h3, h4, h4', ?_, ?_, h7⟩
 ·have := h.ov.cells (g := gv) rfl k (.slice (some ⟨b, 0, none⟩) m c) (by rw [← h1]; simp [List.getElem?_eq_getElem hk])
  rwa [add_plain] at this
 ·have := h.ou.cells (g := gu) rfl k (.int .i64 (n : Nat)) (by rw [← h2]; simp [nums, List.getElem?_eq_getElem hk])
  rwa [add_plain] at this
theorem rholdBytes_calls (L : Nat → Nat) (base g N : Nat) (w : World) (cs : Array Value) (D : Nat → List (Value × Int)) (hR : RoomAt L base w g N cs D) (hN : N ≤ 1073741824) :
  Calls Tryz.prog 41 #[.pointer (some ⟨g, 0, none⟩)] w fun e w' => e = .returned (.bool true) ∧ Below w.heap.size w w' := by
 obtain ⟨V, U, hV, hU, h2⟩ := hR.two 0 (by decide)
 obtain ⟨rfl, _⟩ := h2.off rfl
 have hv : w.cell? ⟨g, 0, none⟩ = some (.slice none 0 0) := (blk_cell hR.blk 0).trans hV
 clear hV hU h2 hR
 go_enter Tryz.func41, Tryz.ntmps41
 go_wp2
 go_loop [3] (fun i => i = .int .i64 0) (fun _ => 0)
 case atStart => exact rfl
 case round =>
  subst hrel
  go_wp2
  go_ret
  exact ⟨rfl, Below.refl _ _⟩
theorem rholdInts_calls (L : Nat → Nat) (base g N : Nat) (w : World) (cs : Array Value) (D : Nat → List (Value × Int)) (hR : RoomAt L base w g N cs D) (hN : N ≤ 1073741824) :
  Calls Tryz.prog 42 #[.pointer (some ⟨g, 0, none⟩)] w fun e w' => e = .returned (.bool true) ∧ Below w.heap.size w w' := by
 obtain ⟨V, U, hV, hU, h2⟩ := hR.two 1 (by decide)
 obtain ⟨rfl, _⟩ := h2.off rfl
 have hv : w.cell? ⟨g, 2, none⟩ = some (.slice none 0 0) := (blk_cell hR.blk 2).trans hV
 clear hV hU h2 hR
 go_enter Tryz.func42, Tryz.ntmps42
 go_wp2
 go_loop [3] (fun i => i = .int .i64 0) (fun _ => 0)
 case atStart => exact rfl
 case round =>
  subst hrel
  go_wp2
  go_ret
  exact ⟨rfl, Below.refl _ _⟩
theorem rholdTexts_calls (L : Nat → Nat) (base g N : Nat) (w : World) (cs : Array Value) (D : Nat → List (Value × Int)) (hR : RoomAt L base w g N cs D) (hN : N ≤ 1073741824) :
  Calls Tryz.prog 43 #[.pointer (some ⟨g, 0, none⟩)] w fun e w' => e = .returned (.bool true) ∧ Below w.heap.size w w' := by
 obtain ⟨V, U, hV, hU, h2⟩ := hR.two 2 (by decide)
 obtain ⟨Av, cv, rfl⟩ := own_slice h2.ov
 obtain ⟨Au, cu, rfl⟩ := own_slice h2.ou
 obtain ⟨len, hlen⟩ : ∃ z, z = (D 2).length := ⟨_, rfl⟩
 have hle := h2.le; rw [← hlen] at hle
 have hv : w.cell? ⟨g, 4, none⟩ = some (.slice Av len cv) := by rw [hlen]; exact (blk_cell hR.blk 4).trans hV
 have hu : w.cell? ⟨g, 5, none⟩ = some (.slice Au len cu) := by rw [hlen]; exact (blk_cell hR.blk 5).trans hU
 have HV := am hv; have HU := am hu; have H2 := am h2; have HLEN := am hlen; have HB := am (Below.refl w.heap.size w)
 clear hv hu h2 hlen hV hU hR
 go_enter Tryz.func43, Tryz.ntmps43
 go_wp2_with fail
 go_loopw [3] (fun i wr => ∃ k : Nat, k ≤ len ∧ i = .int .i64 k ∧ Aside0 (Below w.heap.size w wr)) (fun i _ => len - (intOf i).toNat)
 case atStart => exact ⟨0, Nat.zero_le _, rfl, HB⟩
 case round =>
  clear HB
  obtain ⟨k, hk, rfl, HB⟩ := hrel
  obtain ⟨wo, hwo⟩ : ∃ x, x = wr := ⟨_, rfl⟩; subst hwo
  have hv := pw_cell_below HB.out HV.out; have hu := pw_cell_below HB.out HU.out
  by_cases hlt : k < len
  ·skip
   obtain ⟨b, m, c, n, gv, gu, rfl, rfl, h3, h4, h4', hcv, hcu, hmk⟩ := rhold_at H2.out HLEN.out k hlt
   have hcv' := pw_cell_below HB.out hcv; have hcu' := pw_cell_below HB.out hcu
   have HM := am hmk; have HCV := am hcv; clear hcv hcu hmk
   go_wp2_with fail
   go_loopw [5] (fun x wr => ∃ j : Nat, n + j ≤ m ∧ x = .int .i64 ((n : Int) + (j : Int)) ∧ Aside0 (Below w.heap.size w wr)) (fun x _ => m - (intOf x).toNat)
   case atStart => exact ⟨0, by omega, by rw [Int.natCast_zero, Int.add_zero], HB⟩
   case round =>
    clear HB hv hu hcv' hcu'
    obtain ⟨j, hj, rfl, HB⟩ := hrel
    obtain ⟨wi, hwi⟩ : ∃ x, x = wr := ⟨_, rfl⟩; subst hwi
    have hv := pw_cell_below HB.out HV.out; have hcv' := pw_cell_below HB.out HCV.out
    by_cases hjt : n + j < m
    ·skip
     obtain ⟨_, rfl, hcells⟩ := HM.out j hjt
     have e0 := pw_cell_below HB.out (hcells 0 _ rfl)
     clear hcells
     simp only [show (kinds 2).sz = 1 from rfl, Nat.mul_one, Nat.add_zero] at e0
     have hnj : (n : Int) + (j : Int) - (n : Int) = (j : Int) := by omega
     replace e0 : wi.cell? ⟨b, n + j, none⟩ = some (.string (wd j)) := e0
     go_wp2_with (first | (go_at_call 59; ((with_reducible refine (wd_calls j (by omega) _).mono ?_); rintro e w' ⟨rfl, rfl⟩)))
     go_roundw
     case rel => exact ⟨j + 1, by omega, by go_num, HB⟩
     case measure => simp [intOf]; omega
    ·obtain rfl : m = n + j := by omega
     go_wp2
     go_roundw
     case rel => exact ⟨k + 1, by omega, by go_num, HB⟩
     case measure => simp [intOf]; omega
  ·obtain rfl : k = len := by omega
   go_wp2
   go_ret
   exact ⟨rfl, HB.out⟩
theorem rholdAsks_calls (L : Nat → Nat) (base g N : Nat) (w : World) (cs : Array Value) (D : Nat → List (Value × Int)) (hR : RoomAt L base w g N cs D) (hN : N ≤ 1073741824) :
  Calls Tryz.prog 44 #[.pointer (some ⟨g, 0, none⟩)] w fun e w' => e = .returned (.bool true) ∧ Below w.heap.size w w' := by
 obtain ⟨V, U, hV, hU, h2⟩ := hR.two 3 (by decide)
 obtain ⟨rfl, _⟩ := h2.off rfl
 have hv : w.cell? ⟨g, 6, none⟩ = some (.slice none 0 0) := (blk_cell hR.blk 6).trans hV
 clear hV hU h2 hR
 go_enter Tryz.func44, Tryz.ntmps44
 go_wp2
 go_loop [3] (fun i => i = .int .i64 0) (fun _ => 0)
 case atStart => exact rfl
 case round =>
  subst hrel
  go_wp2
  go_ret
  exact ⟨rfl, Below.refl _ _⟩
theorem rholdUsers_calls (L : Nat → Nat) (base g N : Nat) (w : World) (cs : Array Value) (D : Nat → List (Value × Int)) (hR : RoomAt L base w g N cs D) (hN : N ≤ 1073741824) :
  Calls Tryz.prog 45 #[.pointer (some ⟨g, 0, none⟩)] w fun e w' => e = .returned (.bool true) ∧ Below w.heap.size w w' := by
 obtain ⟨V, U, hV, hU, h2⟩ := hR.two 4 (by decide)
 obtain ⟨rfl, _⟩ := h2.off rfl
 have hv : w.cell? ⟨g, 8, none⟩ = some (.slice none 0 0) := (blk_cell hR.blk 8).trans hV
 clear hV hU h2 hR
 go_enter Tryz.func45, Tryz.ntmps45
 go_wp2
 go_loop [3] (fun i => i = .int .i64 0) (fun _ => 0)
 case atStart => exact rfl
 case round =>
  subst hrel
  go_wp2
  go_ret
  exact ⟨rfl, Below.refl _ _⟩
theorem rholdWhos_calls (L : Nat → Nat) (base g N : Nat) (w : World) (cs : Array Value) (D : Nat → List (Value × Int)) (hR : RoomAt L base w g N cs D) (hN : N ≤ 1073741824) :
  Calls Tryz.prog 46 #[.pointer (some ⟨g, 0, none⟩)] w fun e w' => e = .returned (.bool true) ∧ Below w.heap.size w w' := by
 obtain ⟨V, U, hV, hU, h2⟩ := hR.two 5 (by decide)
 obtain ⟨rfl, _⟩ := h2.off rfl
 have hv : w.cell? ⟨g, 10, none⟩ = some (.slice none 0 0) := (blk_cell hR.blk 10).trans hV
 clear hV hU h2 hR
 go_enter Tryz.func46, Tryz.ntmps46
 go_wp2
 go_loop [3] (fun i => i = .int .i64 0) (fun _ => 0)
 case atStart => exact rfl
 case round =>
  subst hrel
  go_wp2
  go_ret
  exact ⟨rfl, Below.refl _ _⟩
theorem rholdChunks_calls (L : Nat → Nat) (base g N : Nat) (w : World) (cs : Array Value) (D : Nat → List (Value × Int)) (hR : RoomAt L base w g N cs D) (hN : N ≤ 1073741824) :
  Calls Tryz.prog 47 #[.pointer (some ⟨g, 0, none⟩)] w fun e w' => e = .returned (.bool true) ∧ Below w.heap.size w w' := by
 obtain ⟨V, U, hV, hU, h2⟩ := hR.two 6 (by decide)
 obtain ⟨rfl, _⟩ := h2.off rfl
 have hv : w.cell? ⟨g, 12, none⟩ = some (.slice none 0 0) := (blk_cell hR.blk 12).trans hV
 clear hV hU h2 hR
 go_enter Tryz.func47, Tryz.ntmps47
 go_wp2
 go_loop [3] (fun i => i = .int .i64 0) (fun _ => 0)
 case atStart => exact rfl
 case round =>
  subst hrel
  go_wp2
  go_ret
  exact ⟨rfl, Below.refl _ _⟩
theorem rholdMessages_calls (L : Nat → Nat) (base g N : Nat) (w : World) (cs : Array Value) (D : Nat → List (Value × Int)) (hR : RoomAt L base w g N cs D) (hN : N ≤ 1073741824) :
  Calls Tryz.prog 48 #[.pointer (some ⟨g, 0, none⟩)] w fun e w' => e = .returned (.bool true) ∧ Below w.heap.size w w' := by
 obtain ⟨V, U, hV, hU, h2⟩ := hR.two 7 (by decide)
 obtain ⟨rfl, _⟩ := h2.off rfl
 have hv : w.cell? ⟨g, 14, none⟩ = some (.slice none 0 0) := (blk_cell hR.blk 14).trans hV
 clear hV hU h2 hR
 go_enter Tryz.func48, Tryz.ntmps48
 go_wp2
 go_loop [3] (fun i => i = .int .i64 0) (fun _ => 0)
 case atStart => exact rfl
 case round =>
  subst hrel
  go_wp2
  go_ret
  exact ⟨rfl, Below.refl _ _⟩
theorem rholdFlights_calls (L : Nat → Nat) (base g N : Nat) (w : World) (cs : Array Value) (D : Nat → List (Value × Int)) (hR : RoomAt L base w g N cs D) (hN : N ≤ 1073741824) :
  Calls Tryz.prog 49 #[.pointer (some ⟨g, 0, none⟩)] w fun e w' => e = .returned (.bool true) ∧ Below w.heap.size w w' := by
 obtain ⟨V, U, hV, hU, h2⟩ := hR.two 8 (by decide)
 obtain ⟨rfl, _⟩ := h2.off rfl
 have hv : w.cell? ⟨g, 16, none⟩ = some (.slice none 0 0) := (blk_cell hR.blk 16).trans hV
 clear hV hU h2 hR
 go_enter Tryz.func49, Tryz.ntmps49
 go_wp2
 go_loop [3] (fun i => i = .int .i64 0) (fun _ => 0)
 case atStart => exact rfl
 case round =>
  subst hrel
  go_wp2
  go_ret
  exact ⟨rfl, Below.refl _ _⟩
theorem rholdPackets_calls (L : Nat → Nat) (base g N : Nat) (w : World) (cs : Array Value) (D : Nat → List (Value × Int)) (hR : RoomAt L base w g N cs D) (hN : N ≤ 1073741824) :
  Calls Tryz.prog 50 #[.pointer (some ⟨g, 0, none⟩)] w fun e w' => e = .returned (.bool true) ∧ Below w.heap.size w w' := by
 obtain ⟨V, U, hV, hU, h2⟩ := hR.two 9 (by decide)
 obtain ⟨rfl, _⟩ := h2.off rfl
 have hv : w.cell? ⟨g, 18, none⟩ = some (.slice none 0 0) := (blk_cell hR.blk 18).trans hV
 clear hV hU h2 hR
 go_enter Tryz.func50, Tryz.ntmps50
 go_wp2
 go_loop [3] (fun i => i = .int .i64 0) (fun _ => 0)
 case atStart => exact rfl
 case round =>
  subst hrel
  go_wp2
  go_ret
  exact ⟨rfl, Below.refl _ _⟩
theorem rholdInputs_calls (L : Nat → Nat) (base g N : Nat) (w : World) (cs : Array Value) (D : Nat → List (Value × Int)) (hR : RoomAt L base w g N cs D) (hN : N ≤ 1073741824) :
  Calls Tryz.prog 51 #[.pointer (some ⟨g, 0, none⟩)] w fun e w' => e = .returned (.bool true) ∧ Below w.heap.size w w' := by
 obtain ⟨V, U, hV, hU, h2⟩ := hR.two 10 (by decide)
 obtain ⟨rfl, _⟩ := h2.off rfl
 have hv : w.cell? ⟨g, 20, none⟩ = some (.slice none 0 0) := (blk_cell hR.blk 20).trans hV
 clear hV hU h2 hR
 go_enter Tryz.func51, Tryz.ntmps51
 go_wp2
 go_loop [3] (fun i => i = .int .i64 0) (fun _ => 0)
 case atStart => exact rfl
 case round =>
  subst hrel
  go_wp2
  go_ret
  exact ⟨rfl, Below.refl _ _⟩
theorem rholdEvents_calls (L : Nat → Nat) (base g N : Nat) (w : World) (cs : Array Value) (D : Nat → List (Value × Int)) (hR : RoomAt L base w g N cs D) (hN : N ≤ 1073741824) :
  Calls Tryz.prog 52 #[.pointer (some ⟨g, 0, none⟩)] w fun e w' => e = .returned (.bool true) ∧ Below w.heap.size w w' := by
 obtain ⟨V, U, hV, hU, h2⟩ := hR.two 11 (by decide)
 obtain ⟨rfl, _⟩ := h2.off rfl
 have hv : w.cell? ⟨g, 22, none⟩ = some (.slice none 0 0) := (blk_cell hR.blk 22).trans hV
 clear hV hU h2 hR
 go_enter Tryz.func52, Tryz.ntmps52
 go_wp2
 go_loop [3] (fun i => i = .int .i64 0) (fun _ => 0)
 case atStart => exact rfl
 case round =>
  subst hrel
  go_wp2
  go_ret
  exact ⟨rfl, Below.refl _ _⟩
theorem rholdSessions_calls (L : Nat → Nat) (base g N : Nat) (w : World) (cs : Array Value) (D : Nat → List (Value × Int)) (hR : RoomAt L base w g N cs D) (hN : N ≤ 1073741824) :
  Calls Tryz.prog 53 #[.pointer (some ⟨g, 0, none⟩)] w fun e w' => e = .returned (.bool true) ∧ Below w.heap.size w w' := by
 obtain ⟨V, U, hV, hU, h2⟩ := hR.two 12 (by decide)
 obtain ⟨rfl, _⟩ := h2.off rfl
 have hv : w.cell? ⟨g, 24, none⟩ = some (.slice none 0 0) := (blk_cell hR.blk 24).trans hV
 clear hV hU h2 hR
 go_enter Tryz.func53, Tryz.ntmps53
 go_wp2
 go_loop [3] (fun i => i = .int .i64 0) (fun _ => 0)
 case atStart => exact rfl
 case round =>
  subst hrel
  go_wp2
  go_ret
  exact ⟨rfl, Below.refl _ _⟩
theorem rholdSteps_calls (L : Nat → Nat) (base g N : Nat) (w : World) (cs : Array Value) (D : Nat → List (Value × Int)) (hR : RoomAt L base w g N cs D) (hN : N ≤ 1073741824) :
  Calls Tryz.prog 54 #[.pointer (some ⟨g, 0, none⟩)] w fun e w' => e = .returned (.bool true) ∧ Below w.heap.size w w' := by
 obtain ⟨V, U, hV, hU, h2⟩ := hR.two 13 (by decide)
 obtain ⟨rfl, _⟩ := h2.off rfl
 have hv : w.cell? ⟨g, 26, none⟩ = some (.slice none 0 0) := (blk_cell hR.blk 26).trans hV
 clear hV hU h2 hR
 go_enter Tryz.func54, Tryz.ntmps54
 go_wp2
 go_loop [3] (fun i => i = .int .i64 0) (fun _ => 0)
 case atStart => exact rfl
 case round =>
  subst hrel
  go_wp2
  go_ret
  exact ⟨rfl, Below.refl _ _⟩
theorem rholdServeds_calls (L : Nat → Nat) (base g N : Nat) (w : World) (cs : Array Value) (D : Nat → List (Value × Int)) (hR : RoomAt L base w g N cs D) (hN : N ≤ 1073741824) :
  Calls Tryz.prog 55 #[.pointer (some ⟨g, 0, none⟩)] w fun e w' => e = .returned (.bool true) ∧ Below w.heap.size w w' := by
 obtain ⟨V, U, hV, hU, h2⟩ := hR.two 14 (by decide)
 obtain ⟨rfl, _⟩ := h2.off rfl
 have hv : w.cell? ⟨g, 28, none⟩ = some (.slice none 0 0) := (blk_cell hR.blk 28).trans hV
 clear hV hU h2 hR
 go_enter Tryz.func55, Tryz.ntmps55
 go_wp2
 go_loop [3] (fun i => i = .int .i64 0) (fun _ => 0)
 case atStart => exact rfl
 case round =>
  subst hrel
  go_wp2
  go_ret
  exact ⟨rfl, Below.refl _ _⟩
theorem rholdRules_calls (L : Nat → Nat) (base g N : Nat) (w : World) (cs : Array Value) (D : Nat → List (Value × Int)) (hR : RoomAt L base w g N cs D) (hN : N ≤ 1073741824) :
  Calls Tryz.prog 56 #[.pointer (some ⟨g, 0, none⟩)] w fun e w' => e = .returned (.bool true) ∧ Below w.heap.size w w' := by
 obtain ⟨V, U, hV, hU, h2⟩ := hR.two 15 (by decide)
 obtain ⟨rfl, _⟩ := h2.off rfl
 have hv : w.cell? ⟨g, 30, none⟩ = some (.slice none 0 0) := (blk_cell hR.blk 30).trans hV
 clear hV hU h2 hR
 go_enter Tryz.func56, Tryz.ntmps56
 go_wp2
 go_loop [3] (fun i => i = .int .i64 0) (fun _ => 0)
 case atStart => exact rfl
 case round =>
  subst hrel
  go_wp2
  go_ret
  exact ⟨rfl, Below.refl _ _⟩
theorem rholdChanges_calls (L : Nat → Nat) (base g N : Nat) (w : World) (cs : Array Value) (D : Nat → List (Value × Int)) (hR : RoomAt L base w g N cs D) (hN : N ≤ 1073741824) :
  Calls Tryz.prog 57 #[.pointer (some ⟨g, 0, none⟩)] w fun e w' => e = .returned (.bool true) ∧ Below w.heap.size w w' := by
 obtain ⟨V, U, hV, hU, h2⟩ := hR.two 16 (by decide)
 obtain ⟨rfl, _⟩ := h2.off rfl
 have hv : w.cell? ⟨g, 32, none⟩ = some (.slice none 0 0) := (blk_cell hR.blk 32).trans hV
 clear hV hU h2 hR
 go_enter Tryz.func57, Tryz.ntmps57
 go_wp2
 go_loop [3] (fun i => i = .int .i64 0) (fun _ => 0)
 case atStart => exact rfl
 case round =>
  subst hrel
  go_wp2
  go_ret
  exact ⟨rfl, Below.refl _ _⟩
theorem rHold_calls (L : Nat → Nat) (base g N : Nat) (w : World) (cs : Array Value) (D : Nat → List (Value × Int)) (hR : RoomAt L base w g N cs D) (hN : N ≤ 1073741824) :
  Calls Tryz.prog 13 #[.pointer (some ⟨g, 0, none⟩)] w fun e w' => e = .returned (.bool true) ∧ Below w.heap.size w w' := by
 have HR := am hR; have HB := am (Below.refl w.heap.size w)
 clear hR
 go_enter Tryz.func13, Tryz.ntmps13
 go_wp2_with fail
 refine (rholdBytes_calls L base g N _ cs D (HR.out.below HB.out) hN).mono ?_; rintro e w2 ⟨rfl, hb⟩; have n0_ := am (below_step HB.out hb); clear HB hb; have HB := n0_; clear n0_; obtain ⟨wx, hwx⟩ : ∃ x, x = w2 := ⟨_, rfl⟩; subst hwx
 go_wp2_with fail
 refine (rholdInts_calls L base g N _ cs D (HR.out.below HB.out) hN).mono ?_; rintro e w2 ⟨rfl, hb⟩; have n0_ := am (below_step HB.out hb); clear HB hb; have HB := n0_; clear n0_; obtain ⟨wx, hwx⟩ : ∃ x, x = w2 := ⟨_, rfl⟩; subst hwx
 go_wp2_with fail
 refine (rholdTexts_calls L base g N _ cs D (HR.out.below HB.out) hN).mono ?_; rintro e w2 ⟨rfl, hb⟩; have n0_ := am (below_step HB.out hb); clear HB hb; have HB := n0_; clear n0_; obtain ⟨wx, hwx⟩ : ∃ x, x = w2 := ⟨_, rfl⟩; subst hwx
 go_wp2_with fail
 refine (rholdAsks_calls L base g N _ cs D (HR.out.below HB.out) hN).mono ?_; rintro e w2 ⟨rfl, hb⟩; have n0_ := am (below_step HB.out hb); clear HB hb; have HB := n0_; clear n0_; obtain ⟨wx, hwx⟩ : ∃ x, x = w2 := ⟨_, rfl⟩; subst hwx
 go_wp2_with fail
 refine (rholdUsers_calls L base g N _ cs D (HR.out.below HB.out) hN).mono ?_; rintro e w2 ⟨rfl, hb⟩; have n0_ := am (below_step HB.out hb); clear HB hb; have HB := n0_; clear n0_; obtain ⟨wx, hwx⟩ : ∃ x, x = w2 := ⟨_, rfl⟩; subst hwx
 go_wp2_with fail
 refine (rholdWhos_calls L base g N _ cs D (HR.out.below HB.out) hN).mono ?_; rintro e w2 ⟨rfl, hb⟩; have n0_ := am (below_step HB.out hb); clear HB hb; have HB := n0_; clear n0_; obtain ⟨wx, hwx⟩ : ∃ x, x = w2 := ⟨_, rfl⟩; subst hwx
 go_wp2_with fail
 refine (rholdChunks_calls L base g N _ cs D (HR.out.below HB.out) hN).mono ?_; rintro e w2 ⟨rfl, hb⟩; have n0_ := am (below_step HB.out hb); clear HB hb; have HB := n0_; clear n0_; obtain ⟨wx, hwx⟩ : ∃ x, x = w2 := ⟨_, rfl⟩; subst hwx
 go_wp2_with fail
 refine (rholdMessages_calls L base g N _ cs D (HR.out.below HB.out) hN).mono ?_; rintro e w2 ⟨rfl, hb⟩; have n0_ := am (below_step HB.out hb); clear HB hb; have HB := n0_; clear n0_; obtain ⟨wx, hwx⟩ : ∃ x, x = w2 := ⟨_, rfl⟩; subst hwx
 go_wp2_with fail
 refine (rholdFlights_calls L base g N _ cs D (HR.out.below HB.out) hN).mono ?_; rintro e w2 ⟨rfl, hb⟩; have n0_ := am (below_step HB.out hb); clear HB hb; have HB := n0_; clear n0_; obtain ⟨wx, hwx⟩ : ∃ x, x = w2 := ⟨_, rfl⟩; subst hwx
 go_wp2_with fail
 refine (rholdPackets_calls L base g N _ cs D (HR.out.below HB.out) hN).mono ?_; rintro e w2 ⟨rfl, hb⟩; have n0_ := am (below_step HB.out hb); clear HB hb; have HB := n0_; clear n0_; obtain ⟨wx, hwx⟩ : ∃ x, x = w2 := ⟨_, rfl⟩; subst hwx
 go_wp2_with fail
 refine (rholdInputs_calls L base g N _ cs D (HR.out.below HB.out) hN).mono ?_; rintro e w2 ⟨rfl, hb⟩; have n0_ := am (below_step HB.out hb); clear HB hb; have HB := n0_; clear n0_; obtain ⟨wx, hwx⟩ : ∃ x, x = w2 := ⟨_, rfl⟩; subst hwx
 go_wp2_with fail
 refine (rholdEvents_calls L base g N _ cs D (HR.out.below HB.out) hN).mono ?_; rintro e w2 ⟨rfl, hb⟩; have n0_ := am (below_step HB.out hb); clear HB hb; have HB := n0_; clear n0_; obtain ⟨wx, hwx⟩ : ∃ x, x = w2 := ⟨_, rfl⟩; subst hwx
 go_wp2_with fail
 refine (rholdSessions_calls L base g N _ cs D (HR.out.below HB.out) hN).mono ?_; rintro e w2 ⟨rfl, hb⟩; have n0_ := am (below_step HB.out hb); clear HB hb; have HB := n0_; clear n0_; obtain ⟨wx, hwx⟩ : ∃ x, x = w2 := ⟨_, rfl⟩; subst hwx
 go_wp2_with fail
 refine (rholdSteps_calls L base g N _ cs D (HR.out.below HB.out) hN).mono ?_; rintro e w2 ⟨rfl, hb⟩; have n0_ := am (below_step HB.out hb); clear HB hb; have HB := n0_; clear n0_; obtain ⟨wx, hwx⟩ : ∃ x, x = w2 := ⟨_, rfl⟩; subst hwx
 go_wp2_with fail
 refine (rholdServeds_calls L base g N _ cs D (HR.out.below HB.out) hN).mono ?_; rintro e w2 ⟨rfl, hb⟩; have n0_ := am (below_step HB.out hb); clear HB hb; have HB := n0_; clear n0_; obtain ⟨wx, hwx⟩ : ∃ x, x = w2 := ⟨_, rfl⟩; subst hwx
 go_wp2_with fail
 refine (rholdRules_calls L base g N _ cs D (HR.out.below HB.out) hN).mono ?_; rintro e w2 ⟨rfl, hb⟩; have n0_ := am (below_step HB.out hb); clear HB hb; have HB := n0_; clear n0_; obtain ⟨wx, hwx⟩ : ∃ x, x = w2 := ⟨_, rfl⟩; subst hwx
 go_wp2_with fail
 refine (rholdChanges_calls L base g N _ cs D (HR.out.below HB.out) hN).mono ?_; rintro e w2 ⟨rfl, hb⟩; have n0_ := am (below_step HB.out hb); clear HB hb; have HB := n0_; clear n0_; obtain ⟨wx, hwx⟩ : ∃ x, x = w2 := ⟨_, rfl⟩; subst hwx
 go_wp2
 go_ret
 exact ⟨rfl, HB.out⟩
end Go.Proofs.YtfomjbbebgajcaaGreatDoor.Rm
