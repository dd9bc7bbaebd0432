/- crierkept.Book: kinds of which nothing was noted; due. -/
import Derived.Test.YtndhkgfeknkfdaaGreatDoorKd
import Derived.BigQuiet
import Derived.IntWalk
import Derived.Deep.QuietTactic
namespace Go.Proofs.YtndhkgfeknkfdaaGreatDoor.Rm
open Go.RowKit Go.Proofs.YtndhkgfeknkfdaaGreatDoorW.PrintWords Go.Proofs.YtndhkgfeknkfdaaGreatDoorW.PrintLast Go.Proofs.YtndhkgfeknkfdaaGreatDoorW.PrintMore Go.Proofs.YtndhkgfeknkfdaaGreatDoor.MPacketChecks
open Go.Proofs.YtndhkgfeknkfdaaGreatDoorW.PrintWords.Aside0 renaming mk → am
set_option linter.unusedVariables false
set_option linter.unusedSimpArgs false
set_option maxHeartbeats 2000000
set_option maxRecDepth 100000

def bkT : Nat → TypeId := fun i => if 5 ≤ i % 8 then 3 else [22, 26, 27, 143, 25, 104, 107, 32, 110, 65, 111, 151, 114, 154, 120, 157, 130, 133, 161, 136, 125].getD (i / 8) 0
abbrev BookAt := Bok bkT 62
theorem row_nil {L : Nat → Nat} {base g N : Nat} {w : World} {cs : Array Value} {D : Nat → List Value} (h : BookAt L base w g N cs D) (i : Nat) (hi : i < 168) (hD : D i = []) : ∃ A c, w.cell? ⟨g, slot i, none⟩ = some (.slice A 0 c) := by
 obtain ⟨V, hV, _, ho, _⟩ := h.row i hi
 rw [hD] at ho
 obtain ⟨A, c, e⟩ := own_slice ho
 exact ⟨A, c, by rw [show (.slice A 0 c : Value) = V from e.symm]; exact (blk_cell h.blk _).trans hV⟩
theorem row_any {L : Nat → Nat} {base g N : Nat} {w : World} {cs : Array Value} {D : Nat → List Value} (h : BookAt L base w g N cs D) (i : Nat) (hi : i < 168) : ∃ A c, w.cell? ⟨g, slot i, none⟩ = some (.slice A (D i).length c) := by
 obtain ⟨V, hV, _, ho, _⟩ := h.row i hi
 obtain ⟨A, c, e⟩ := own_slice ho
 exact ⟨A, c, by rw [← e]; exact (blk_cell h.blk _).trans hV⟩
theorem put_nil {D : Nat → List Value} {i : Nat} (h : D i = []) : (fun j => if j = i then [] else D j) = D := funext fun j => by
 by_cases e : j = i
 ·rw [if_pos e, e, h]
 ·rw [if_neg e]
theorem markBytes_nil (L : Nat → Nat) (base g N : Nat) (w : World) (cs : Array Value) (D : Nat → List Value) (h : BookAt L base w g N cs D) (hD : D 2 = []) : Calls Tryz.prog 156 #[.pointer (some ⟨g, 0, none⟩)] w fun e w' => e = .returned (.tuple #[]) ∧ w' = w := by
 obtain ⟨A2, c2, h2⟩ := row_nil h 2 (by decide) hD
 obtain ⟨A3, c3, h3⟩ := row_any h 3 (by decide)
 obtain ⟨A5, c5, h5⟩ := row_any h 5 (by decide)
 obtain ⟨A6, c6, h6⟩ := row_any h 6 (by decide)
 rw [show slot 2 = 6 from rfl] at h2; rw [show slot 3 = 7 from rfl] at h3; rw [show slot 5 = 9 from rfl] at h5; rw [show slot 6 = 10 from rfl] at h6
 generalize (D 3).length = n3 at h3; generalize (D 5).length = n5 at h5; generalize (D 6).length = n6 at h6
 clear h hD
 go_enter Tryz.func156, Tryz.ntmps156
 go_wp2
 first | go_end0 | ((try simp only [Exit.inBlock, Exit.then]); refine bodyPost_ret (results_none rfl _ _ _) rfl ?_)
 exact ⟨rfl, rfl⟩
theorem markInts_nil (L : Nat → Nat) (base g N : Nat) (w : World) (cs : Array Value) (D : Nat → List Value) (h : BookAt L base w g N cs D) (hD : D 10 = []) : Calls Tryz.prog 157 #[.pointer (some ⟨g, 0, none⟩)] w fun e w' => e = .returned (.tuple #[]) ∧ w' = w := by
 obtain ⟨A2, c2, h2⟩ := row_nil h 10 (by decide) hD
 obtain ⟨A3, c3, h3⟩ := row_any h 11 (by decide)
 obtain ⟨A5, c5, h5⟩ := row_any h 13 (by decide)
 obtain ⟨A6, c6, h6⟩ := row_any h 14 (by decide)
 rw [show slot 10 = 15 from rfl] at h2; rw [show slot 11 = 16 from rfl] at h3; rw [show slot 13 = 18 from rfl] at h5; rw [show slot 14 = 19 from rfl] at h6
 generalize (D 11).length = n3 at h3; generalize (D 13).length = n5 at h5; generalize (D 14).length = n6 at h6
 clear h hD
 go_enter Tryz.func157, Tryz.ntmps157
 go_wp2
 first | go_end0 | ((try simp only [Exit.inBlock, Exit.then]); refine bodyPost_ret (results_none rfl _ _ _) rfl ?_)
 exact ⟨rfl, rfl⟩
theorem markTexts_nil (L : Nat → Nat) (base g N : Nat) (w : World) (cs : Array Value) (D : Nat → List Value) (h : BookAt L base w g N cs D) (hD : D 18 = []) : Calls Tryz.prog 158 #[.pointer (some ⟨g, 0, none⟩)] w fun e w' => e = .returned (.tuple #[]) ∧ w' = w := by
 obtain ⟨A2, c2, h2⟩ := row_nil h 18 (by decide) hD
 obtain ⟨A3, c3, h3⟩ := row_any h 19 (by decide)
 obtain ⟨A5, c5, h5⟩ := row_any h 21 (by decide)
 obtain ⟨A6, c6, h6⟩ := row_any h 22 (by decide)
 rw [show slot 18 = 24 from rfl] at h2; rw [show slot 19 = 25 from rfl] at h3; rw [show slot 21 = 27 from rfl] at h5; rw [show slot 22 = 28 from rfl] at h6
 generalize (D 19).length = n3 at h3; generalize (D 21).length = n5 at h5; generalize (D 22).length = n6 at h6
 clear h hD
 go_enter Tryz.func158, Tryz.ntmps158
 go_wp2
 first | go_end0 | ((try simp only [Exit.inBlock, Exit.then]); refine bodyPost_ret (results_none rfl _ _ _) rfl ?_)
 exact ⟨rfl, rfl⟩
theorem markEntries_nil (L : Nat → Nat) (base g N : Nat) (w : World) (cs : Array Value) (D : Nat → List Value) (h : BookAt L base w g N cs D) (hD : D 26 = []) : Calls Tryz.prog 159 #[.pointer (some ⟨g, 0, none⟩)] w fun e w' => e = .returned (.tuple #[]) ∧ w' = w := by
 obtain ⟨A2, c2, h2⟩ := row_nil h 26 (by decide) hD
 obtain ⟨A3, c3, h3⟩ := row_any h 27 (by decide)
 obtain ⟨A5, c5, h5⟩ := row_any h 29 (by decide)
 obtain ⟨A6, c6, h6⟩ := row_any h 30 (by decide)
 rw [show slot 26 = 33 from rfl] at h2; rw [show slot 27 = 34 from rfl] at h3; rw [show slot 29 = 36 from rfl] at h5; rw [show slot 30 = 37 from rfl] at h6
 generalize (D 27).length = n3 at h3; generalize (D 29).length = n5 at h5; generalize (D 30).length = n6 at h6
 clear h hD
 go_enter Tryz.func159, Tryz.ntmps159
 go_wp2
 first | go_end0 | ((try simp only [Exit.inBlock, Exit.then]); refine bodyPost_ret (results_none rfl _ _ _) rfl ?_)
 exact ⟨rfl, rfl⟩
theorem growEntries_nil (L : Nat → Nat) (base g N : Nat) (w : World) (cs : Array Value) (D : Nat → List Value) (h : BookAt L base w g N cs D) {now bad : Bool} {turn deep : Int} {seen : Nat → Int} (hs : Sc cs now bad turn deep seen) (hD : D 28 = []) (hE : D 31 = []) : Calls Tryz.prog 180 #[.pointer (some ⟨g, 0, none⟩)] w fun e w' => e = .returned (.tuple #[]) ∧ ∃ cs', BookAt L base w' g N cs' D ∧ Sc cs' now bad turn deep seen ∧ Only Bl L w L w' ∧ Same3 w w' := by
 obtain ⟨A4, c4, h4⟩ := row_nil h 28 (by decide) hD
 obtain ⟨A7, c7, h7⟩ := row_nil h 31 (by decide) hE
 rw [show slot 28 = 35 from rfl] at h4; rw [show slot 31 = 38 from rfl] at h7
 have f4 := blk_frozen h.blk 35; have f7 := blk_frozen h.blk 38
 have H := am h; have HS := am hs; have HD := am hD; have HE := am hE
 clear h hs hD hE
 go_enter Tryz.func180, Tryz.ntmps180
 go_wp2
 go_loop [2] (fun i => i = .int .i64 0) (fun _ => 0)
 case atStart => exact rfl
 case round =>
  subst hrel
  go_wp2
  first | go_end0 | ((try simp only [Exit.inBlock, Exit.then]); refine bodyPost_ret (results_none rfl _ _ _) rfl ?_)
  obtain ⟨b1, o1⟩ := H.out.clear0 (i := 28) (by decide)
  rw [put_nil HD.out] at b1
  obtain ⟨b2, o2⟩ := b1.clear0 (i := 31) (by decide)
  rw [put_nil HE.out] at b2
  exact ⟨rfl, _, b2, (HS.out.row _ _ (by decide)).row _ _ (by decide), o1.trans o2, ⟨rfl, rfl, rfl⟩⟩
theorem holdEntries_nil (L : Nat → Nat) (base g N : Nat) (w : World) (cs : Array Value) (D : Nat → List Value) (h : BookAt L base w g N cs D) (hD : D 24 = []) (hE : D 26 = []) : Calls Tryz.prog 69 #[.pointer (some ⟨g, 0, none⟩)] w fun e w' => e = .returned (.bool true) ∧ Below w.heap.size w w' := by
 obtain ⟨A0, c0, h0⟩ := row_nil h 24 (by decide) hD
 obtain ⟨A2, c2, h2⟩ := row_nil h 26 (by decide) hE
 rw [show slot 24 = 31 from rfl] at h0; rw [show slot 26 = 33 from rfl] at h2
 clear h hD hE
 go_enter Tryz.func69, Tryz.ntmps69
 go_wp2
 go_loop [3] (fun i => i = .int .i64 0) (fun _ => 0)
 case atStart => exact rfl
 case round =>
  subst hrel
  go_wp2
  go_loop [4] (fun i => i = .int .i64 0) (fun _ => 0)
  case atStart => exact rfl
  case round =>
   subst hrel
   go_wp2
   go_ret
   exact ⟨rfl, Below.refl _ _⟩
theorem markAsks_nil (L : Nat → Nat) (base g N : Nat) (w : World) (cs : Array Value) (D : Nat → List Value) (h : BookAt L base w g N cs D) (hD : D 34 = []) : Calls Tryz.prog 160 #[.pointer (some ⟨g, 0, none⟩)] w fun e w' => e = .returned (.tuple #[]) ∧ w' = w := by
 obtain ⟨A2, c2, h2⟩ := row_nil h 34 (by decide) hD
 obtain ⟨A3, c3, h3⟩ := row_any h 35 (by decide)
 obtain ⟨A5, c5, h5⟩ := row_any h 37 (by decide)
 obtain ⟨A6, c6, h6⟩ := row_any h 38 (by decide)
 rw [show slot 34 = 42 from rfl] at h2; rw [show slot 35 = 43 from rfl] at h3; rw [show slot 37 = 45 from rfl] at h5; rw [show slot 38 = 46 from rfl] at h6
 generalize (D 35).length = n3 at h3; generalize (D 37).length = n5 at h5; generalize (D 38).length = n6 at h6
 clear h hD
 go_enter Tryz.func160, Tryz.ntmps160
 go_wp2
 first | go_end0 | ((try simp only [Exit.inBlock, Exit.then]); refine bodyPost_ret (results_none rfl _ _ _) rfl ?_)
 exact ⟨rfl, rfl⟩
theorem markUsers_nil (L : Nat → Nat) (base g N : Nat) (w : World) (cs : Array Value) (D : Nat → List Value) (h : BookAt L base w g N cs D) (hD : D 42 = []) : Calls Tryz.prog 161 #[.pointer (some ⟨g, 0, none⟩)] w fun e w' => e = .returned (.tuple #[]) ∧ w' = w := by
 obtain ⟨A2, c2, h2⟩ := row_nil h 42 (by decide) hD
 obtain ⟨A3, c3, h3⟩ := row_any h 43 (by decide)
 obtain ⟨A5, c5, h5⟩ := row_any h 45 (by decide)
 obtain ⟨A6, c6, h6⟩ := row_any h 46 (by decide)
 rw [show slot 42 = 51 from rfl] at h2; rw [show slot 43 = 52 from rfl] at h3; rw [show slot 45 = 54 from rfl] at h5; rw [show slot 46 = 55 from rfl] at h6
 generalize (D 43).length = n3 at h3; generalize (D 45).length = n5 at h5; generalize (D 46).length = n6 at h6
 clear h hD
 go_enter Tryz.func161, Tryz.ntmps161
 go_wp2
 first | go_end0 | ((try simp only [Exit.inBlock, Exit.then]); refine bodyPost_ret (results_none rfl _ _ _) rfl ?_)
 exact ⟨rfl, rfl⟩
theorem growUsers_nil (L : Nat → Nat) (base g N : Nat) (w : World) (cs : Array Value) (D : Nat → List Value) (h : BookAt L base w g N cs D) {now bad : Bool} {turn deep : Int} {seen : Nat → Int} (hs : Sc cs now bad turn deep seen) (hD : D 44 = []) (hE : D 47 = []) : Calls Tryz.prog 182 #[.pointer (some ⟨g, 0, none⟩)] w fun e w' => e = .returned (.tuple #[]) ∧ ∃ cs', BookAt L base w' g N cs' D ∧ Sc cs' now bad turn deep seen ∧ Only Bl L w L w' ∧ Same3 w w' := by
 obtain ⟨A4, c4, h4⟩ := row_nil h 44 (by decide) hD
 obtain ⟨A7, c7, h7⟩ := row_nil h 47 (by decide) hE
 rw [show slot 44 = 53 from rfl] at h4; rw [show slot 47 = 56 from rfl] at h7
 have f4 := blk_frozen h.blk 53; have f7 := blk_frozen h.blk 56
 have H := am h; have HS := am hs; have HD := am hD; have HE := am hE
 clear h hs hD hE
 go_enter Tryz.func182, Tryz.ntmps182
 go_wp2
 go_loop [2] (fun i => i = .int .i64 0) (fun _ => 0)
 case atStart => exact rfl
 case round =>
  subst hrel
  go_wp2
  first | go_end0 | ((try simp only [Exit.inBlock, Exit.then]); refine bodyPost_ret (results_none rfl _ _ _) rfl ?_)
  obtain ⟨b1, o1⟩ := H.out.clear0 (i := 44) (by decide)
  rw [put_nil HD.out] at b1
  obtain ⟨b2, o2⟩ := b1.clear0 (i := 47) (by decide)
  rw [put_nil HE.out] at b2
  exact ⟨rfl, _, b2, (HS.out.row _ _ (by decide)).row _ _ (by decide), o1.trans o2, ⟨rfl, rfl, rfl⟩⟩
theorem holdUsers_nil (L : Nat → Nat) (base g N : Nat) (w : World) (cs : Array Value) (D : Nat → List Value) (h : BookAt L base w g N cs D) (hD : D 40 = []) (hE : D 42 = []) : Calls Tryz.prog 71 #[.pointer (some ⟨g, 0, none⟩)] w fun e w' => e = .returned (.bool true) ∧ Below w.heap.size w w' := by
 obtain ⟨A0, c0, h0⟩ := row_nil h 40 (by decide) hD
 obtain ⟨A2, c2, h2⟩ := row_nil h 42 (by decide) hE
 rw [show slot 40 = 49 from rfl] at h0; rw [show slot 42 = 51 from rfl] at h2
 clear h hD hE
 go_enter Tryz.func71, Tryz.ntmps71
 go_wp2
 go_loop [3] (fun i => i = .int .i64 0) (fun _ => 0)
 case atStart => exact rfl
 case round =>
  subst hrel
  go_wp2
  go_loop [4] (fun i => i = .int .i64 0) (fun _ => 0)
  case atStart => exact rfl
  case round =>
   subst hrel
   go_wp2
   go_ret
   exact ⟨rfl, Below.refl _ _⟩
theorem markWhos_nil (L : Nat → Nat) (base g N : Nat) (w : World) (cs : Array Value) (D : Nat → List Value) (h : BookAt L base w g N cs D) (hD : D 50 = []) : Calls Tryz.prog 162 #[.pointer (some ⟨g, 0, none⟩)] w fun e w' => e = .returned (.tuple #[]) ∧ w' = w := by
 obtain ⟨A2, c2, h2⟩ := row_nil h 50 (by decide) hD
 obtain ⟨A3, c3, h3⟩ := row_any h 51 (by decide)
 obtain ⟨A5, c5, h5⟩ := row_any h 53 (by decide)
 obtain ⟨A6, c6, h6⟩ := row_any h 54 (by decide)
 rw [show slot 50 = 60 from rfl] at h2; rw [show slot 51 = 61 from rfl] at h3; rw [show slot 53 = 63 from rfl] at h5; rw [show slot 54 = 64 from rfl] at h6
 generalize (D 51).length = n3 at h3; generalize (D 53).length = n5 at h5; generalize (D 54).length = n6 at h6
 clear h hD
 go_enter Tryz.func162, Tryz.ntmps162
 go_wp2
 first | go_end0 | ((try simp only [Exit.inBlock, Exit.then]); refine bodyPost_ret (results_none rfl _ _ _) rfl ?_)
 exact ⟨rfl, rfl⟩
theorem growWhos_nil (L : Nat → Nat) (base g N : Nat) (w : World) (cs : Array Value) (D : Nat → List Value) (h : BookAt L base w g N cs D) {now bad : Bool} {turn deep : Int} {seen : Nat → Int} (hs : Sc cs now bad turn deep seen) (hD : D 52 = []) (hE : D 55 = []) : Calls Tryz.prog 183 #[.pointer (some ⟨g, 0, none⟩)] w fun e w' => e = .returned (.tuple #[]) ∧ ∃ cs', BookAt L base w' g N cs' D ∧ Sc cs' now bad turn deep seen ∧ Only Bl L w L w' ∧ Same3 w w' := by
 obtain ⟨A4, c4, h4⟩ := row_nil h 52 (by decide) hD
 obtain ⟨A7, c7, h7⟩ := row_nil h 55 (by decide) hE
 rw [show slot 52 = 62 from rfl] at h4; rw [show slot 55 = 65 from rfl] at h7
 have f4 := blk_frozen h.blk 62; have f7 := blk_frozen h.blk 65
 have H := am h; have HS := am hs; have HD := am hD; have HE := am hE
 clear h hs hD hE
 go_enter Tryz.func183, Tryz.ntmps183
 go_wp2
 go_loop [2] (fun i => i = .int .i64 0) (fun _ => 0)
 case atStart => exact rfl
 case round =>
  subst hrel
  go_wp2
  first | go_end0 | ((try simp only [Exit.inBlock, Exit.then]); refine bodyPost_ret (results_none rfl _ _ _) rfl ?_)
  obtain ⟨b1, o1⟩ := H.out.clear0 (i := 52) (by decide)
  rw [put_nil HD.out] at b1
  obtain ⟨b2, o2⟩ := b1.clear0 (i := 55) (by decide)
  rw [put_nil HE.out] at b2
  exact ⟨rfl, _, b2, (HS.out.row _ _ (by decide)).row _ _ (by decide), o1.trans o2, ⟨rfl, rfl, rfl⟩⟩
theorem holdWhos_nil (L : Nat → Nat) (base g N : Nat) (w : World) (cs : Array Value) (D : Nat → List Value) (h : BookAt L base w g N cs D) (hD : D 48 = []) (hE : D 50 = []) : Calls Tryz.prog 72 #[.pointer (some ⟨g, 0, none⟩)] w fun e w' => e = .returned (.bool true) ∧ Below w.heap.size w w' := by
 obtain ⟨A0, c0, h0⟩ := row_nil h 48 (by decide) hD
 obtain ⟨A2, c2, h2⟩ := row_nil h 50 (by decide) hE
 rw [show slot 48 = 58 from rfl] at h0; rw [show slot 50 = 60 from rfl] at h2
 clear h hD hE
 go_enter Tryz.func72, Tryz.ntmps72
 go_wp2
 go_loop [3] (fun i => i = .int .i64 0) (fun _ => 0)
 case atStart => exact rfl
 case round =>
  subst hrel
  go_wp2
  go_loop [4] (fun i => i = .int .i64 0) (fun _ => 0)
  case atStart => exact rfl
  case round =>
   subst hrel
   go_wp2
   go_ret
   exact ⟨rfl, Below.refl _ _⟩
theorem markChunks_nil (L : Nat → Nat) (base g N : Nat) (w : World) (cs : Array Value) (D : Nat → List Value) (h : BookAt L base w g N cs D) (hD : D 58 = []) : Calls Tryz.prog 163 #[.pointer (some ⟨g, 0, none⟩)] w fun e w' => e = .returned (.tuple #[]) ∧ w' = w := by
 obtain ⟨A2, c2, h2⟩ := row_nil h 58 (by decide) hD
 obtain ⟨A3, c3, h3⟩ := row_any h 59 (by decide)
 obtain ⟨A5, c5, h5⟩ := row_any h 61 (by decide)
 obtain ⟨A6, c6, h6⟩ := row_any h 62 (by decide)
 rw [show slot 58 = 69 from rfl] at h2; rw [show slot 59 = 70 from rfl] at h3; rw [show slot 61 = 72 from rfl] at h5; rw [show slot 62 = 73 from rfl] at h6
 generalize (D 59).length = n3 at h3; generalize (D 61).length = n5 at h5; generalize (D 62).length = n6 at h6
 clear h hD
 go_enter Tryz.func163, Tryz.ntmps163
 go_wp2
 first | go_end0 | ((try simp only [Exit.inBlock, Exit.then]); refine bodyPost_ret (results_none rfl _ _ _) rfl ?_)
 exact ⟨rfl, rfl⟩
theorem growChunks_nil (L : Nat → Nat) (base g N : Nat) (w : World) (cs : Array Value) (D : Nat → List Value) (h : BookAt L base w g N cs D) {now bad : Bool} {turn deep : Int} {seen : Nat → Int} (hs : Sc cs now bad turn deep seen) (hD : D 60 = []) (hE : D 63 = []) : Calls Tryz.prog 184 #[.pointer (some ⟨g, 0, none⟩)] w fun e w' => e = .returned (.tuple #[]) ∧ ∃ cs', BookAt L base w' g N cs' D ∧ Sc cs' now bad turn deep seen ∧ Only Bl L w L w' ∧ Same3 w w' := by
 obtain ⟨A4, c4, h4⟩ := row_nil h 60 (by decide) hD
 obtain ⟨A7, c7, h7⟩ := row_nil h 63 (by decide) hE
 rw [show slot 60 = 71 from rfl] at h4; rw [show slot 63 = 74 from rfl] at h7
 have f4 := blk_frozen h.blk 71; have f7 := blk_frozen h.blk 74
 have H := am h; have HS := am hs; have HD := am hD; have HE := am hE
 clear h hs hD hE
 go_enter Tryz.func184, Tryz.ntmps184
 go_wp2
 go_loop [2] (fun i => i = .int .i64 0) (fun _ => 0)
 case atStart => exact rfl
 case round =>
  subst hrel
  go_wp2
  first | go_end0 | ((try simp only [Exit.inBlock, Exit.then]); refine bodyPost_ret (results_none rfl _ _ _) rfl ?_)
  obtain ⟨b1, o1⟩ := H.out.clear0 (i := 60) (by decide)
  rw [put_nil HD.out] at b1
  obtain ⟨b2, o2⟩ := b1.clear0 (i := 63) (by decide)
  rw [put_nil HE.out] at b2
  exact ⟨rfl, _, b2, (HS.out.row _ _ (by decide)).row _ _ (by decide), o1.trans o2, ⟨rfl, rfl, rfl⟩⟩
theorem holdChunks_nil (L : Nat → Nat) (base g N : Nat) (w : World) (cs : Array Value) (D : Nat → List Value) (h : BookAt L base w g N cs D) (hD : D 56 = []) (hE : D 58 = []) : Calls Tryz.prog 73 #[.pointer (some ⟨g, 0, none⟩)] w fun e w' => e = .returned (.bool true) ∧ Below w.heap.size w w' := by
 obtain ⟨A0, c0, h0⟩ := row_nil h 56 (by decide) hD
 obtain ⟨A2, c2, h2⟩ := row_nil h 58 (by decide) hE
 rw [show slot 56 = 67 from rfl] at h0; rw [show slot 58 = 69 from rfl] at h2
 clear h hD hE
 go_enter Tryz.func73, Tryz.ntmps73
 go_wp2
 go_loop [3] (fun i => i = .int .i64 0) (fun _ => 0)
 case atStart => exact rfl
 case round =>
  subst hrel
  go_wp2
  go_loop [4] (fun i => i = .int .i64 0) (fun _ => 0)
  case atStart => exact rfl
  case round =>
   subst hrel
   go_wp2
   go_ret
   exact ⟨rfl, Below.refl _ _⟩
theorem markMessages_nil (L : Nat → Nat) (base g N : Nat) (w : World) (cs : Array Value) (D : Nat → List Value) (h : BookAt L base w g N cs D) (hD : D 66 = []) : Calls Tryz.prog 164 #[.pointer (some ⟨g, 0, none⟩)] w fun e w' => e = .returned (.tuple #[]) ∧ w' = w := by
 obtain ⟨A2, c2, h2⟩ := row_nil h 66 (by decide) hD
 obtain ⟨A3, c3, h3⟩ := row_any h 67 (by decide)
 obtain ⟨A5, c5, h5⟩ := row_any h 69 (by decide)
 obtain ⟨A6, c6, h6⟩ := row_any h 70 (by decide)
 rw [show slot 66 = 78 from rfl] at h2; rw [show slot 67 = 79 from rfl] at h3; rw [show slot 69 = 81 from rfl] at h5; rw [show slot 70 = 82 from rfl] at h6
 generalize (D 67).length = n3 at h3; generalize (D 69).length = n5 at h5; generalize (D 70).length = n6 at h6
 clear h hD
 go_enter Tryz.func164, Tryz.ntmps164
 go_wp2
 first | go_end0 | ((try simp only [Exit.inBlock, Exit.then]); refine bodyPost_ret (results_none rfl _ _ _) rfl ?_)
 exact ⟨rfl, rfl⟩
theorem growMessages_nil (L : Nat → Nat) (base g N : Nat) (w : World) (cs : Array Value) (D : Nat → List Value) (h : BookAt L base w g N cs D) {now bad : Bool} {turn deep : Int} {seen : Nat → Int} (hs : Sc cs now bad turn deep seen) (hD : D 68 = []) (hE : D 71 = []) : Calls Tryz.prog 185 #[.pointer (some ⟨g, 0, none⟩)] w fun e w' => e = .returned (.tuple #[]) ∧ ∃ cs', BookAt L base w' g N cs' D ∧ Sc cs' now bad turn deep seen ∧ Only Bl L w L w' ∧ Same3 w w' := by
 obtain ⟨A4, c4, h4⟩ := row_nil h 68 (by decide) hD
 obtain ⟨A7, c7, h7⟩ := row_nil h 71 (by decide) hE
 rw [show slot 68 = 80 from rfl] at h4; rw [show slot 71 = 83 from rfl] at h7
 have f4 := blk_frozen h.blk 80; have f7 := blk_frozen h.blk 83
 have H := am h; have HS := am hs; have HD := am hD; have HE := am hE
 clear h hs hD hE
 go_enter Tryz.func185, Tryz.ntmps185
 go_wp2
 go_loop [2] (fun i => i = .int .i64 0) (fun _ => 0)
 case atStart => exact rfl
 case round =>
  subst hrel
  go_wp2
  first | go_end0 | ((try simp only [Exit.inBlock, Exit.then]); refine bodyPost_ret (results_none rfl _ _ _) rfl ?_)
  obtain ⟨b1, o1⟩ := H.out.clear0 (i := 68) (by decide)
  rw [put_nil HD.out] at b1
  obtain ⟨b2, o2⟩ := b1.clear0 (i := 71) (by decide)
  rw [put_nil HE.out] at b2
  exact ⟨rfl, _, b2, (HS.out.row _ _ (by decide)).row _ _ (by decide), o1.trans o2, ⟨rfl, rfl, rfl⟩⟩
theorem holdMessages_nil (L : Nat → Nat) (base g N : Nat) (w : World) (cs : Array Value) (D : Nat → List Value) (h : BookAt L base w g N cs D) (hD : D 64 = []) (hE : D 66 = []) : Calls Tryz.prog 74 #[.pointer (some ⟨g, 0, none⟩)] w fun e w' => e = .returned (.bool true) ∧ Below w.heap.size w w' := by
 obtain ⟨A0, c0, h0⟩ := row_nil h 64 (by decide) hD
 obtain ⟨A2, c2, h2⟩ := row_nil h 66 (by decide) hE
 rw [show slot 64 = 76 from rfl] at h0; rw [show slot 66 = 78 from rfl] at h2
 clear h hD hE
 go_enter Tryz.func74, Tryz.ntmps74
 go_wp2
 go_loop [3] (fun i => i = .int .i64 0) (fun _ => 0)
 case atStart => exact rfl
 case round =>
  subst hrel
  go_wp2
  go_loop [4] (fun i => i = .int .i64 0) (fun _ => 0)
  case atStart => exact rfl
  case round =>
   subst hrel
   go_wp2
   go_ret
   exact ⟨rfl, Below.refl _ _⟩
theorem markPackets_nil (L : Nat → Nat) (base g N : Nat) (w : World) (cs : Array Value) (D : Nat → List Value) (h : BookAt L base w g N cs D) (hD : D 74 = []) : Calls Tryz.prog 165 #[.pointer (some ⟨g, 0, none⟩)] w fun e w' => e = .returned (.tuple #[]) ∧ w' = w := by
 obtain ⟨A2, c2, h2⟩ := row_nil h 74 (by decide) hD
 obtain ⟨A3, c3, h3⟩ := row_any h 75 (by decide)
 obtain ⟨A5, c5, h5⟩ := row_any h 77 (by decide)
 obtain ⟨A6, c6, h6⟩ := row_any h 78 (by decide)
 rw [show slot 74 = 87 from rfl] at h2; rw [show slot 75 = 88 from rfl] at h3; rw [show slot 77 = 90 from rfl] at h5; rw [show slot 78 = 91 from rfl] at h6
 generalize (D 75).length = n3 at h3; generalize (D 77).length = n5 at h5; generalize (D 78).length = n6 at h6
 clear h hD
 go_enter Tryz.func165, Tryz.ntmps165
 go_wp2
 first | go_end0 | ((try simp only [Exit.inBlock, Exit.then]); refine bodyPost_ret (results_none rfl _ _ _) rfl ?_)
 exact ⟨rfl, rfl⟩
theorem growPackets_nil (L : Nat → Nat) (base g N : Nat) (w : World) (cs : Array Value) (D : Nat → List Value) (h : BookAt L base w g N cs D) {now bad : Bool} {turn deep : Int} {seen : Nat → Int} (hs : Sc cs now bad turn deep seen) (hD : D 76 = []) (hE : D 79 = []) : Calls Tryz.prog 186 #[.pointer (some ⟨g, 0, none⟩)] w fun e w' => e = .returned (.tuple #[]) ∧ ∃ cs', BookAt L base w' g N cs' D ∧ Sc cs' now bad turn deep seen ∧ Only Bl L w L w' ∧ Same3 w w' := by
 obtain ⟨A4, c4, h4⟩ := row_nil h 76 (by decide) hD
 obtain ⟨A7, c7, h7⟩ := row_nil h 79 (by decide) hE
 rw [show slot 76 = 89 from rfl] at h4; rw [show slot 79 = 92 from rfl] at h7
 have f4 := blk_frozen h.blk 89; have f7 := blk_frozen h.blk 92
 have H := am h; have HS := am hs; have HD := am hD; have HE := am hE
 clear h hs hD hE
 go_enter Tryz.func186, Tryz.ntmps186
 go_wp2
 go_loop [2] (fun i => i = .int .i64 0) (fun _ => 0)
 case atStart => exact rfl
 case round =>
  subst hrel
  go_wp2
  first | go_end0 | ((try simp only [Exit.inBlock, Exit.then]); refine bodyPost_ret (results_none rfl _ _ _) rfl ?_)
  obtain ⟨b1, o1⟩ := H.out.clear0 (i := 76) (by decide)
  rw [put_nil HD.out] at b1
  obtain ⟨b2, o2⟩ := b1.clear0 (i := 79) (by decide)
  rw [put_nil HE.out] at b2
  exact ⟨rfl, _, b2, (HS.out.row _ _ (by decide)).row _ _ (by decide), o1.trans o2, ⟨rfl, rfl, rfl⟩⟩
theorem holdPackets_nil (L : Nat → Nat) (base g N : Nat) (w : World) (cs : Array Value) (D : Nat → List Value) (h : BookAt L base w g N cs D) (hD : D 72 = []) (hE : D 74 = []) : Calls Tryz.prog 75 #[.pointer (some ⟨g, 0, none⟩)] w fun e w' => e = .returned (.bool true) ∧ Below w.heap.size w w' := by
 obtain ⟨A0, c0, h0⟩ := row_nil h 72 (by decide) hD
 obtain ⟨A2, c2, h2⟩ := row_nil h 74 (by decide) hE
 rw [show slot 72 = 85 from rfl] at h0; rw [show slot 74 = 87 from rfl] at h2
 clear h hD hE
 go_enter Tryz.func75, Tryz.ntmps75
 go_wp2
 go_loop [3] (fun i => i = .int .i64 0) (fun _ => 0)
 case atStart => exact rfl
 case round =>
  subst hrel
  go_wp2
  go_loop [4] (fun i => i = .int .i64 0) (fun _ => 0)
  case atStart => exact rfl
  case round =>
   subst hrel
   go_wp2
   go_ret
   exact ⟨rfl, Below.refl _ _⟩
theorem markFlights_nil (L : Nat → Nat) (base g N : Nat) (w : World) (cs : Array Value) (D : Nat → List Value) (h : BookAt L base w g N cs D) (hD : D 82 = []) : Calls Tryz.prog 166 #[.pointer (some ⟨g, 0, none⟩)] w fun e w' => e = .returned (.tuple #[]) ∧ w' = w := by
 obtain ⟨A2, c2, h2⟩ := row_nil h 82 (by decide) hD
 obtain ⟨A3, c3, h3⟩ := row_any h 83 (by decide)
 obtain ⟨A5, c5, h5⟩ := row_any h 85 (by decide)
 obtain ⟨A6, c6, h6⟩ := row_any h 86 (by decide)
 rw [show slot 82 = 96 from rfl] at h2; rw [show slot 83 = 97 from rfl] at h3; rw [show slot 85 = 99 from rfl] at h5; rw [show slot 86 = 100 from rfl] at h6
 generalize (D 83).length = n3 at h3; generalize (D 85).length = n5 at h5; generalize (D 86).length = n6 at h6
 clear h hD
 go_enter Tryz.func166, Tryz.ntmps166
 go_wp2
 first | go_end0 | ((try simp only [Exit.inBlock, Exit.then]); refine bodyPost_ret (results_none rfl _ _ _) rfl ?_)
 exact ⟨rfl, rfl⟩
theorem growFlights_nil (L : Nat → Nat) (base g N : Nat) (w : World) (cs : Array Value) (D : Nat → List Value) (h : BookAt L base w g N cs D) {now bad : Bool} {turn deep : Int} {seen : Nat → Int} (hs : Sc cs now bad turn deep seen) (hD : D 84 = []) (hE : D 87 = []) : Calls Tryz.prog 187 #[.pointer (some ⟨g, 0, none⟩)] w fun e w' => e = .returned (.tuple #[]) ∧ ∃ cs', BookAt L base w' g N cs' D ∧ Sc cs' now bad turn deep seen ∧ Only Bl L w L w' ∧ Same3 w w' := by
 obtain ⟨A4, c4, h4⟩ := row_nil h 84 (by decide) hD
 obtain ⟨A7, c7, h7⟩ := row_nil h 87 (by decide) hE
 rw [show slot 84 = 98 from rfl] at h4; rw [show slot 87 = 101 from rfl] at h7
 have f4 := blk_frozen h.blk 98; have f7 := blk_frozen h.blk 101
 have H := am h; have HS := am hs; have HD := am hD; have HE := am hE
 clear h hs hD hE
 go_enter Tryz.func187, Tryz.ntmps187
 go_wp2
 go_loop [2] (fun i => i = .int .i64 0) (fun _ => 0)
 case atStart => exact rfl
 case round =>
  subst hrel
  go_wp2
  first | go_end0 | ((try simp only [Exit.inBlock, Exit.then]); refine bodyPost_ret (results_none rfl _ _ _) rfl ?_)
  obtain ⟨b1, o1⟩ := H.out.clear0 (i := 84) (by decide)
  rw [put_nil HD.out] at b1
  obtain ⟨b2, o2⟩ := b1.clear0 (i := 87) (by decide)
  rw [put_nil HE.out] at b2
  exact ⟨rfl, _, b2, (HS.out.row _ _ (by decide)).row _ _ (by decide), o1.trans o2, ⟨rfl, rfl, rfl⟩⟩
theorem holdFlights_nil (L : Nat → Nat) (base g N : Nat) (w : World) (cs : Array Value) (D : Nat → List Value) (h : BookAt L base w g N cs D) (hD : D 80 = []) (hE : D 82 = []) : Calls Tryz.prog 76 #[.pointer (some ⟨g, 0, none⟩)] w fun e w' => e = .returned (.bool true) ∧ Below w.heap.size w w' := by
 obtain ⟨A0, c0, h0⟩ := row_nil h 80 (by decide) hD
 obtain ⟨A2, c2, h2⟩ := row_nil h 82 (by decide) hE
 rw [show slot 80 = 94 from rfl] at h0; rw [show slot 82 = 96 from rfl] at h2
 clear h hD hE
 go_enter Tryz.func76, Tryz.ntmps76
 go_wp2
 go_loop [3] (fun i => i = .int .i64 0) (fun _ => 0)
 case atStart => exact rfl
 case round =>
  subst hrel
  go_wp2
  go_loop [4] (fun i => i = .int .i64 0) (fun _ => 0)
  case atStart => exact rfl
  case round =>
   subst hrel
   go_wp2
   go_ret
   exact ⟨rfl, Below.refl _ _⟩
theorem markOuts_nil (L : Nat → Nat) (base g N : Nat) (w : World) (cs : Array Value) (D : Nat → List Value) (h : BookAt L base w g N cs D) (hD : D 90 = []) : Calls Tryz.prog 167 #[.pointer (some ⟨g, 0, none⟩)] w fun e w' => e = .returned (.tuple #[]) ∧ w' = w := by
 obtain ⟨A2, c2, h2⟩ := row_nil h 90 (by decide) hD
 obtain ⟨A3, c3, h3⟩ := row_any h 91 (by decide)
 obtain ⟨A5, c5, h5⟩ := row_any h 93 (by decide)
 obtain ⟨A6, c6, h6⟩ := row_any h 94 (by decide)
 rw [show slot 90 = 105 from rfl] at h2; rw [show slot 91 = 106 from rfl] at h3; rw [show slot 93 = 108 from rfl] at h5; rw [show slot 94 = 109 from rfl] at h6
 generalize (D 91).length = n3 at h3; generalize (D 93).length = n5 at h5; generalize (D 94).length = n6 at h6
 clear h hD
 go_enter Tryz.func167, Tryz.ntmps167
 go_wp2
 first | go_end0 | ((try simp only [Exit.inBlock, Exit.then]); refine bodyPost_ret (results_none rfl _ _ _) rfl ?_)
 exact ⟨rfl, rfl⟩
theorem growOuts_nil (L : Nat → Nat) (base g N : Nat) (w : World) (cs : Array Value) (D : Nat → List Value) (h : BookAt L base w g N cs D) {now bad : Bool} {turn deep : Int} {seen : Nat → Int} (hs : Sc cs now bad turn deep seen) (hD : D 92 = []) (hE : D 95 = []) : Calls Tryz.prog 188 #[.pointer (some ⟨g, 0, none⟩)] w fun e w' => e = .returned (.tuple #[]) ∧ ∃ cs', BookAt L base w' g N cs' D ∧ Sc cs' now bad turn deep seen ∧ Only Bl L w L w' ∧ Same3 w w' := by
 obtain ⟨A4, c4, h4⟩ := row_nil h 92 (by decide) hD
 obtain ⟨A7, c7, h7⟩ := row_nil h 95 (by decide) hE
 rw [show slot 92 = 107 from rfl] at h4; rw [show slot 95 = 110 from rfl] at h7
 have f4 := blk_frozen h.blk 107; have f7 := blk_frozen h.blk 110
 have H := am h; have HS := am hs; have HD := am hD; have HE := am hE
 clear h hs hD hE
 go_enter Tryz.func188, Tryz.ntmps188
 go_wp2
 go_loop [2] (fun i => i = .int .i64 0) (fun _ => 0)
 case atStart => exact rfl
 case round =>
  subst hrel
  go_wp2
  first | go_end0 | ((try simp only [Exit.inBlock, Exit.then]); refine bodyPost_ret (results_none rfl _ _ _) rfl ?_)
  obtain ⟨b1, o1⟩ := H.out.clear0 (i := 92) (by decide)
  rw [put_nil HD.out] at b1
  obtain ⟨b2, o2⟩ := b1.clear0 (i := 95) (by decide)
  rw [put_nil HE.out] at b2
  exact ⟨rfl, _, b2, (HS.out.row _ _ (by decide)).row _ _ (by decide), o1.trans o2, ⟨rfl, rfl, rfl⟩⟩
theorem holdOuts_nil (L : Nat → Nat) (base g N : Nat) (w : World) (cs : Array Value) (D : Nat → List Value) (h : BookAt L base w g N cs D) (hD : D 88 = []) (hE : D 90 = []) : Calls Tryz.prog 77 #[.pointer (some ⟨g, 0, none⟩)] w fun e w' => e = .returned (.bool true) ∧ Below w.heap.size w w' := by
 obtain ⟨A0, c0, h0⟩ := row_nil h 88 (by decide) hD
 obtain ⟨A2, c2, h2⟩ := row_nil h 90 (by decide) hE
 rw [show slot 88 = 103 from rfl] at h0; rw [show slot 90 = 105 from rfl] at h2
 clear h hD hE
 go_enter Tryz.func77, Tryz.ntmps77
 go_wp2
 go_loop [3] (fun i => i = .int .i64 0) (fun _ => 0)
 case atStart => exact rfl
 case round =>
  subst hrel
  go_wp2
  go_loop [4] (fun i => i = .int .i64 0) (fun _ => 0)
  case atStart => exact rfl
  case round =>
   subst hrel
   go_wp2
   go_ret
   exact ⟨rfl, Below.refl _ _⟩
theorem markInputs_nil (L : Nat → Nat) (base g N : Nat) (w : World) (cs : Array Value) (D : Nat → List Value) (h : BookAt L base w g N cs D) (hD : D 98 = []) : Calls Tryz.prog 168 #[.pointer (some ⟨g, 0, none⟩)] w fun e w' => e = .returned (.tuple #[]) ∧ w' = w := by
 obtain ⟨A2, c2, h2⟩ := row_nil h 98 (by decide) hD
 obtain ⟨A3, c3, h3⟩ := row_any h 99 (by decide)
 obtain ⟨A5, c5, h5⟩ := row_any h 101 (by decide)
 obtain ⟨A6, c6, h6⟩ := row_any h 102 (by decide)
 rw [show slot 98 = 114 from rfl] at h2; rw [show slot 99 = 115 from rfl] at h3; rw [show slot 101 = 117 from rfl] at h5; rw [show slot 102 = 118 from rfl] at h6
 generalize (D 99).length = n3 at h3; generalize (D 101).length = n5 at h5; generalize (D 102).length = n6 at h6
 clear h hD
 go_enter Tryz.func168, Tryz.ntmps168
 go_wp2
 first | go_end0 | ((try simp only [Exit.inBlock, Exit.then]); refine bodyPost_ret (results_none rfl _ _ _) rfl ?_)
 exact ⟨rfl, rfl⟩
theorem growInputs_nil (L : Nat → Nat) (base g N : Nat) (w : World) (cs : Array Value) (D : Nat → List Value) (h : BookAt L base w g N cs D) {now bad : Bool} {turn deep : Int} {seen : Nat → Int} (hs : Sc cs now bad turn deep seen) (hD : D 100 = []) (hE : D 103 = []) : Calls Tryz.prog 189 #[.pointer (some ⟨g, 0, none⟩)] w fun e w' => e = .returned (.tuple #[]) ∧ ∃ cs', BookAt L base w' g N cs' D ∧ Sc cs' now bad turn deep seen ∧ Only Bl L w L w' ∧ Same3 w w' := by
 obtain ⟨A4, c4, h4⟩ := row_nil h 100 (by decide) hD
 obtain ⟨A7, c7, h7⟩ := row_nil h 103 (by decide) hE
 rw [show slot 100 = 116 from rfl] at h4; rw [show slot 103 = 119 from rfl] at h7
 have f4 := blk_frozen h.blk 116; have f7 := blk_frozen h.blk 119
 have H := am h; have HS := am hs; have HD := am hD; have HE := am hE
 clear h hs hD hE
 go_enter Tryz.func189, Tryz.ntmps189
 go_wp2
 go_loop [2] (fun i => i = .int .i64 0) (fun _ => 0)
 case atStart => exact rfl
 case round =>
  subst hrel
  go_wp2
  first | go_end0 | ((try simp only [Exit.inBlock, Exit.then]); refine bodyPost_ret (results_none rfl _ _ _) rfl ?_)
  obtain ⟨b1, o1⟩ := H.out.clear0 (i := 100) (by decide)
  rw [put_nil HD.out] at b1
  obtain ⟨b2, o2⟩ := b1.clear0 (i := 103) (by decide)
  rw [put_nil HE.out] at b2
  exact ⟨rfl, _, b2, (HS.out.row _ _ (by decide)).row _ _ (by decide), o1.trans o2, ⟨rfl, rfl, rfl⟩⟩
theorem holdInputs_nil (L : Nat → Nat) (base g N : Nat) (w : World) (cs : Array Value) (D : Nat → List Value) (h : BookAt L base w g N cs D) (hD : D 96 = []) (hE : D 98 = []) : Calls Tryz.prog 78 #[.pointer (some ⟨g, 0, none⟩)] w fun e w' => e = .returned (.bool true) ∧ Below w.heap.size w w' := by
 obtain ⟨A0, c0, h0⟩ := row_nil h 96 (by decide) hD
 obtain ⟨A2, c2, h2⟩ := row_nil h 98 (by decide) hE
 rw [show slot 96 = 112 from rfl] at h0; rw [show slot 98 = 114 from rfl] at h2
 clear h hD hE
 go_enter Tryz.func78, Tryz.ntmps78
 go_wp2
 go_loop [3] (fun i => i = .int .i64 0) (fun _ => 0)
 case atStart => exact rfl
 case round =>
  subst hrel
  go_wp2
  go_loop [4] (fun i => i = .int .i64 0) (fun _ => 0)
  case atStart => exact rfl
  case round =>
   subst hrel
   go_wp2
   go_ret
   exact ⟨rfl, Below.refl _ _⟩
theorem markTolds_nil (L : Nat → Nat) (base g N : Nat) (w : World) (cs : Array Value) (D : Nat → List Value) (h : BookAt L base w g N cs D) (hD : D 106 = []) : Calls Tryz.prog 169 #[.pointer (some ⟨g, 0, none⟩)] w fun e w' => e = .returned (.tuple #[]) ∧ w' = w := by
 obtain ⟨A2, c2, h2⟩ := row_nil h 106 (by decide) hD
 obtain ⟨A3, c3, h3⟩ := row_any h 107 (by decide)
 obtain ⟨A5, c5, h5⟩ := row_any h 109 (by decide)
 obtain ⟨A6, c6, h6⟩ := row_any h 110 (by decide)
 rw [show slot 106 = 123 from rfl] at h2; rw [show slot 107 = 124 from rfl] at h3; rw [show slot 109 = 126 from rfl] at h5; rw [show slot 110 = 127 from rfl] at h6
 generalize (D 107).length = n3 at h3; generalize (D 109).length = n5 at h5; generalize (D 110).length = n6 at h6
 clear h hD
 go_enter Tryz.func169, Tryz.ntmps169
 go_wp2
 first | go_end0 | ((try simp only [Exit.inBlock, Exit.then]); refine bodyPost_ret (results_none rfl _ _ _) rfl ?_)
 exact ⟨rfl, rfl⟩
theorem growTolds_nil (L : Nat → Nat) (base g N : Nat) (w : World) (cs : Array Value) (D : Nat → List Value) (h : BookAt L base w g N cs D) {now bad : Bool} {turn deep : Int} {seen : Nat → Int} (hs : Sc cs now bad turn deep seen) (hD : D 108 = []) (hE : D 111 = []) : Calls Tryz.prog 190 #[.pointer (some ⟨g, 0, none⟩)] w fun e w' => e = .returned (.tuple #[]) ∧ ∃ cs', BookAt L base w' g N cs' D ∧ Sc cs' now bad turn deep seen ∧ Only Bl L w L w' ∧ Same3 w w' := by
 obtain ⟨A4, c4, h4⟩ := row_nil h 108 (by decide) hD
 obtain ⟨A7, c7, h7⟩ := row_nil h 111 (by decide) hE
 rw [show slot 108 = 125 from rfl] at h4; rw [show slot 111 = 128 from rfl] at h7
 have f4 := blk_frozen h.blk 125; have f7 := blk_frozen h.blk 128
 have H := am h; have HS := am hs; have HD := am hD; have HE := am hE
 clear h hs hD hE
 go_enter Tryz.func190, Tryz.ntmps190
 go_wp2
 go_loop [2] (fun i => i = .int .i64 0) (fun _ => 0)
 case atStart => exact rfl
 case round =>
  subst hrel
  go_wp2
  first | go_end0 | ((try simp only [Exit.inBlock, Exit.then]); refine bodyPost_ret (results_none rfl _ _ _) rfl ?_)
  obtain ⟨b1, o1⟩ := H.out.clear0 (i := 108) (by decide)
  rw [put_nil HD.out] at b1
  obtain ⟨b2, o2⟩ := b1.clear0 (i := 111) (by decide)
  rw [put_nil HE.out] at b2
  exact ⟨rfl, _, b2, (HS.out.row _ _ (by decide)).row _ _ (by decide), o1.trans o2, ⟨rfl, rfl, rfl⟩⟩
theorem holdTolds_nil (L : Nat → Nat) (base g N : Nat) (w : World) (cs : Array Value) (D : Nat → List Value) (h : BookAt L base w g N cs D) (hD : D 104 = []) (hE : D 106 = []) : Calls Tryz.prog 79 #[.pointer (some ⟨g, 0, none⟩)] w fun e w' => e = .returned (.bool true) ∧ Below w.heap.size w w' := by
 obtain ⟨A0, c0, h0⟩ := row_nil h 104 (by decide) hD
 obtain ⟨A2, c2, h2⟩ := row_nil h 106 (by decide) hE
 rw [show slot 104 = 121 from rfl] at h0; rw [show slot 106 = 123 from rfl] at h2
 clear h hD hE
 go_enter Tryz.func79, Tryz.ntmps79
 go_wp2
 go_loop [3] (fun i => i = .int .i64 0) (fun _ => 0)
 case atStart => exact rfl
 case round =>
  subst hrel
  go_wp2
  go_loop [4] (fun i => i = .int .i64 0) (fun _ => 0)
  case atStart => exact rfl
  case round =>
   subst hrel
   go_wp2
   go_ret
   exact ⟨rfl, Below.refl _ _⟩
theorem markSessions_nil (L : Nat → Nat) (base g N : Nat) (w : World) (cs : Array Value) (D : Nat → List Value) (h : BookAt L base w g N cs D) (hD : D 114 = []) : Calls Tryz.prog 170 #[.pointer (some ⟨g, 0, none⟩)] w fun e w' => e = .returned (.tuple #[]) ∧ w' = w := by
 obtain ⟨A2, c2, h2⟩ := row_nil h 114 (by decide) hD
 obtain ⟨A3, c3, h3⟩ := row_any h 115 (by decide)
 obtain ⟨A5, c5, h5⟩ := row_any h 117 (by decide)
 obtain ⟨A6, c6, h6⟩ := row_any h 118 (by decide)
 rw [show slot 114 = 132 from rfl] at h2; rw [show slot 115 = 133 from rfl] at h3; rw [show slot 117 = 135 from rfl] at h5; rw [show slot 118 = 136 from rfl] at h6
 generalize (D 115).length = n3 at h3; generalize (D 117).length = n5 at h5; generalize (D 118).length = n6 at h6
 clear h hD
 go_enter Tryz.func170, Tryz.ntmps170
 go_wp2
 first | go_end0 | ((try simp only [Exit.inBlock, Exit.then]); refine bodyPost_ret (results_none rfl _ _ _) rfl ?_)
 exact ⟨rfl, rfl⟩
theorem growSessions_nil (L : Nat → Nat) (base g N : Nat) (w : World) (cs : Array Value) (D : Nat → List Value) (h : BookAt L base w g N cs D) {now bad : Bool} {turn deep : Int} {seen : Nat → Int} (hs : Sc cs now bad turn deep seen) (hD : D 116 = []) (hE : D 119 = []) : Calls Tryz.prog 191 #[.pointer (some ⟨g, 0, none⟩)] w fun e w' => e = .returned (.tuple #[]) ∧ ∃ cs', BookAt L base w' g N cs' D ∧ Sc cs' now bad turn deep seen ∧ Only Bl L w L w' ∧ Same3 w w' := by
 obtain ⟨A4, c4, h4⟩ := row_nil h 116 (by decide) hD
 obtain ⟨A7, c7, h7⟩ := row_nil h 119 (by decide) hE
 rw [show slot 116 = 134 from rfl] at h4; rw [show slot 119 = 137 from rfl] at h7
 have f4 := blk_frozen h.blk 134; have f7 := blk_frozen h.blk 137
 have H := am h; have HS := am hs; have HD := am hD; have HE := am hE
 clear h hs hD hE
 go_enter Tryz.func191, Tryz.ntmps191
 go_wp2
 go_loop [2] (fun i => i = .int .i64 0) (fun _ => 0)
 case atStart => exact rfl
 case round =>
  subst hrel
  go_wp2
  first | go_end0 | ((try simp only [Exit.inBlock, Exit.then]); refine bodyPost_ret (results_none rfl _ _ _) rfl ?_)
  obtain ⟨b1, o1⟩ := H.out.clear0 (i := 116) (by decide)
  rw [put_nil HD.out] at b1
  obtain ⟨b2, o2⟩ := b1.clear0 (i := 119) (by decide)
  rw [put_nil HE.out] at b2
  exact ⟨rfl, _, b2, (HS.out.row _ _ (by decide)).row _ _ (by decide), o1.trans o2, ⟨rfl, rfl, rfl⟩⟩
theorem holdSessions_nil (L : Nat → Nat) (base g N : Nat) (w : World) (cs : Array Value) (D : Nat → List Value) (h : BookAt L base w g N cs D) (hD : D 112 = []) (hE : D 114 = []) : Calls Tryz.prog 80 #[.pointer (some ⟨g, 0, none⟩)] w fun e w' => e = .returned (.bool true) ∧ Below w.heap.size w w' := by
 obtain ⟨A0, c0, h0⟩ := row_nil h 112 (by decide) hD
 obtain ⟨A2, c2, h2⟩ := row_nil h 114 (by decide) hE
 rw [show slot 112 = 130 from rfl] at h0; rw [show slot 114 = 132 from rfl] at h2
 clear h hD hE
 go_enter Tryz.func80, Tryz.ntmps80
 go_wp2
 go_loop [3] (fun i => i = .int .i64 0) (fun _ => 0)
 case atStart => exact rfl
 case round =>
  subst hrel
  go_wp2
  go_loop [4] (fun i => i = .int .i64 0) (fun _ => 0)
  case atStart => exact rfl
  case round =>
   subst hrel
   go_wp2
   go_ret
   exact ⟨rfl, Below.refl _ _⟩
theorem markShapes_nil (L : Nat → Nat) (base g N : Nat) (w : World) (cs : Array Value) (D : Nat → List Value) (h : BookAt L base w g N cs D) (hD : D 122 = []) : Calls Tryz.prog 171 #[.pointer (some ⟨g, 0, none⟩)] w fun e w' => e = .returned (.tuple #[]) ∧ w' = w := by
 obtain ⟨A2, c2, h2⟩ := row_nil h 122 (by decide) hD
 obtain ⟨A3, c3, h3⟩ := row_any h 123 (by decide)
 obtain ⟨A5, c5, h5⟩ := row_any h 125 (by decide)
 obtain ⟨A6, c6, h6⟩ := row_any h 126 (by decide)
 rw [show slot 122 = 141 from rfl] at h2; rw [show slot 123 = 142 from rfl] at h3; rw [show slot 125 = 144 from rfl] at h5; rw [show slot 126 = 145 from rfl] at h6
 generalize (D 123).length = n3 at h3; generalize (D 125).length = n5 at h5; generalize (D 126).length = n6 at h6
 clear h hD
 go_enter Tryz.func171, Tryz.ntmps171
 go_wp2
 first | go_end0 | ((try simp only [Exit.inBlock, Exit.then]); refine bodyPost_ret (results_none rfl _ _ _) rfl ?_)
 exact ⟨rfl, rfl⟩
theorem growShapes_nil (L : Nat → Nat) (base g N : Nat) (w : World) (cs : Array Value) (D : Nat → List Value) (h : BookAt L base w g N cs D) {now bad : Bool} {turn deep : Int} {seen : Nat → Int} (hs : Sc cs now bad turn deep seen) (hD : D 124 = []) (hE : D 127 = []) : Calls Tryz.prog 192 #[.pointer (some ⟨g, 0, none⟩)] w fun e w' => e = .returned (.tuple #[]) ∧ ∃ cs', BookAt L base w' g N cs' D ∧ Sc cs' now bad turn deep seen ∧ Only Bl L w L w' ∧ Same3 w w' := by
 obtain ⟨A4, c4, h4⟩ := row_nil h 124 (by decide) hD
 obtain ⟨A7, c7, h7⟩ := row_nil h 127 (by decide) hE
 rw [show slot 124 = 143 from rfl] at h4; rw [show slot 127 = 146 from rfl] at h7
 have f4 := blk_frozen h.blk 143; have f7 := blk_frozen h.blk 146
 have H := am h; have HS := am hs; have HD := am hD; have HE := am hE
 clear h hs hD hE
 go_enter Tryz.func192, Tryz.ntmps192
 go_wp2
 go_loop [2] (fun i => i = .int .i64 0) (fun _ => 0)
 case atStart => exact rfl
 case round =>
  subst hrel
  go_wp2
  first | go_end0 | ((try simp only [Exit.inBlock, Exit.then]); refine bodyPost_ret (results_none rfl _ _ _) rfl ?_)
  obtain ⟨b1, o1⟩ := H.out.clear0 (i := 124) (by decide)
  rw [put_nil HD.out] at b1
  obtain ⟨b2, o2⟩ := b1.clear0 (i := 127) (by decide)
  rw [put_nil HE.out] at b2
  exact ⟨rfl, _, b2, (HS.out.row _ _ (by decide)).row _ _ (by decide), o1.trans o2, ⟨rfl, rfl, rfl⟩⟩
theorem holdShapes_nil (L : Nat → Nat) (base g N : Nat) (w : World) (cs : Array Value) (D : Nat → List Value) (h : BookAt L base w g N cs D) (hD : D 120 = []) (hE : D 122 = []) : Calls Tryz.prog 81 #[.pointer (some ⟨g, 0, none⟩)] w fun e w' => e = .returned (.bool true) ∧ Below w.heap.size w w' := by
 obtain ⟨A0, c0, h0⟩ := row_nil h 120 (by decide) hD
 obtain ⟨A2, c2, h2⟩ := row_nil h 122 (by decide) hE
 rw [show slot 120 = 139 from rfl] at h0; rw [show slot 122 = 141 from rfl] at h2
 clear h hD hE
 go_enter Tryz.func81, Tryz.ntmps81
 go_wp2
 go_loop [3] (fun i => i = .int .i64 0) (fun _ => 0)
 case atStart => exact rfl
 case round =>
  subst hrel
  go_wp2
  go_loop [4] (fun i => i = .int .i64 0) (fun _ => 0)
  case atStart => exact rfl
  case round =>
   subst hrel
   go_wp2
   go_ret
   exact ⟨rfl, Below.refl _ _⟩
theorem markServeds_nil (L : Nat → Nat) (base g N : Nat) (w : World) (cs : Array Value) (D : Nat → List Value) (h : BookAt L base w g N cs D) (hD : D 130 = []) : Calls Tryz.prog 172 #[.pointer (some ⟨g, 0, none⟩)] w fun e w' => e = .returned (.tuple #[]) ∧ w' = w := by
 obtain ⟨A2, c2, h2⟩ := row_nil h 130 (by decide) hD
 obtain ⟨A3, c3, h3⟩ := row_any h 131 (by decide)
 obtain ⟨A5, c5, h5⟩ := row_any h 133 (by decide)
 obtain ⟨A6, c6, h6⟩ := row_any h 134 (by decide)
 rw [show slot 130 = 150 from rfl] at h2; rw [show slot 131 = 151 from rfl] at h3; rw [show slot 133 = 153 from rfl] at h5; rw [show slot 134 = 154 from rfl] at h6
 generalize (D 131).length = n3 at h3; generalize (D 133).length = n5 at h5; generalize (D 134).length = n6 at h6
 clear h hD
 go_enter Tryz.func172, Tryz.ntmps172
 go_wp2
 first | go_end0 | ((try simp only [Exit.inBlock, Exit.then]); refine bodyPost_ret (results_none rfl _ _ _) rfl ?_)
 exact ⟨rfl, rfl⟩
theorem growServeds_nil (L : Nat → Nat) (base g N : Nat) (w : World) (cs : Array Value) (D : Nat → List Value) (h : BookAt L base w g N cs D) {now bad : Bool} {turn deep : Int} {seen : Nat → Int} (hs : Sc cs now bad turn deep seen) (hD : D 132 = []) (hE : D 135 = []) : Calls Tryz.prog 193 #[.pointer (some ⟨g, 0, none⟩)] w fun e w' => e = .returned (.tuple #[]) ∧ ∃ cs', BookAt L base w' g N cs' D ∧ Sc cs' now bad turn deep seen ∧ Only Bl L w L w' ∧ Same3 w w' := by
 obtain ⟨A4, c4, h4⟩ := row_nil h 132 (by decide) hD
 obtain ⟨A7, c7, h7⟩ := row_nil h 135 (by decide) hE
 rw [show slot 132 = 152 from rfl] at h4; rw [show slot 135 = 155 from rfl] at h7
 have f4 := blk_frozen h.blk 152; have f7 := blk_frozen h.blk 155
 have H := am h; have HS := am hs; have HD := am hD; have HE := am hE
 clear h hs hD hE
 go_enter Tryz.func193, Tryz.ntmps193
 go_wp2
 go_loop [2] (fun i => i = .int .i64 0) (fun _ => 0)
 case atStart => exact rfl
 case round =>
  subst hrel
  go_wp2
  first | go_end0 | ((try simp only [Exit.inBlock, Exit.then]); refine bodyPost_ret (results_none rfl _ _ _) rfl ?_)
  obtain ⟨b1, o1⟩ := H.out.clear0 (i := 132) (by decide)
  rw [put_nil HD.out] at b1
  obtain ⟨b2, o2⟩ := b1.clear0 (i := 135) (by decide)
  rw [put_nil HE.out] at b2
  exact ⟨rfl, _, b2, (HS.out.row _ _ (by decide)).row _ _ (by decide), o1.trans o2, ⟨rfl, rfl, rfl⟩⟩
theorem holdServeds_nil (L : Nat → Nat) (base g N : Nat) (w : World) (cs : Array Value) (D : Nat → List Value) (h : BookAt L base w g N cs D) (hD : D 128 = []) (hE : D 130 = []) : Calls Tryz.prog 82 #[.pointer (some ⟨g, 0, none⟩)] w fun e w' => e = .returned (.bool true) ∧ Below w.heap.size w w' := by
 obtain ⟨A0, c0, h0⟩ := row_nil h 128 (by decide) hD
 obtain ⟨A2, c2, h2⟩ := row_nil h 130 (by decide) hE
 rw [show slot 128 = 148 from rfl] at h0; rw [show slot 130 = 150 from rfl] at h2
 clear h hD hE
 go_enter Tryz.func82, Tryz.ntmps82
 go_wp2
 go_loop [3] (fun i => i = .int .i64 0) (fun _ => 0)
 case atStart => exact rfl
 case round =>
  subst hrel
  go_wp2
  go_loop [4] (fun i => i = .int .i64 0) (fun _ => 0)
  case atStart => exact rfl
  case round =>
   subst hrel
   go_wp2
   go_ret
   exact ⟨rfl, Below.refl _ _⟩
theorem markRules_nil (L : Nat → Nat) (base g N : Nat) (w : World) (cs : Array Value) (D : Nat → List Value) (h : BookAt L base w g N cs D) (hD : D 138 = []) : Calls Tryz.prog 173 #[.pointer (some ⟨g, 0, none⟩)] w fun e w' => e = .returned (.tuple #[]) ∧ w' = w := by
 obtain ⟨A2, c2, h2⟩ := row_nil h 138 (by decide) hD
 obtain ⟨A3, c3, h3⟩ := row_any h 139 (by decide)
 obtain ⟨A5, c5, h5⟩ := row_any h 141 (by decide)
 obtain ⟨A6, c6, h6⟩ := row_any h 142 (by decide)
 rw [show slot 138 = 159 from rfl] at h2; rw [show slot 139 = 160 from rfl] at h3; rw [show slot 141 = 162 from rfl] at h5; rw [show slot 142 = 163 from rfl] at h6
 generalize (D 139).length = n3 at h3; generalize (D 141).length = n5 at h5; generalize (D 142).length = n6 at h6
 clear h hD
 go_enter Tryz.func173, Tryz.ntmps173
 go_wp2
 first | go_end0 | ((try simp only [Exit.inBlock, Exit.then]); refine bodyPost_ret (results_none rfl _ _ _) rfl ?_)
 exact ⟨rfl, rfl⟩
theorem growRules_nil (L : Nat → Nat) (base g N : Nat) (w : World) (cs : Array Value) (D : Nat → List Value) (h : BookAt L base w g N cs D) {now bad : Bool} {turn deep : Int} {seen : Nat → Int} (hs : Sc cs now bad turn deep seen) (hD : D 140 = []) (hE : D 143 = []) : Calls Tryz.prog 194 #[.pointer (some ⟨g, 0, none⟩)] w fun e w' => e = .returned (.tuple #[]) ∧ ∃ cs', BookAt L base w' g N cs' D ∧ Sc cs' now bad turn deep seen ∧ Only Bl L w L w' ∧ Same3 w w' := by
 obtain ⟨A4, c4, h4⟩ := row_nil h 140 (by decide) hD
 obtain ⟨A7, c7, h7⟩ := row_nil h 143 (by decide) hE
 rw [show slot 140 = 161 from rfl] at h4; rw [show slot 143 = 164 from rfl] at h7
 have f4 := blk_frozen h.blk 161; have f7 := blk_frozen h.blk 164
 have H := am h; have HS := am hs; have HD := am hD; have HE := am hE
 clear h hs hD hE
 go_enter Tryz.func194, Tryz.ntmps194
 go_wp2
 go_loop [2] (fun i => i = .int .i64 0) (fun _ => 0)
 case atStart => exact rfl
 case round =>
  subst hrel
  go_wp2
  first | go_end0 | ((try simp only [Exit.inBlock, Exit.then]); refine bodyPost_ret (results_none rfl _ _ _) rfl ?_)
  obtain ⟨b1, o1⟩ := H.out.clear0 (i := 140) (by decide)
  rw [put_nil HD.out] at b1
  obtain ⟨b2, o2⟩ := b1.clear0 (i := 143) (by decide)
  rw [put_nil HE.out] at b2
  exact ⟨rfl, _, b2, (HS.out.row _ _ (by decide)).row _ _ (by decide), o1.trans o2, ⟨rfl, rfl, rfl⟩⟩
theorem holdRules_nil (L : Nat → Nat) (base g N : Nat) (w : World) (cs : Array Value) (D : Nat → List Value) (h : BookAt L base w g N cs D) (hD : D 136 = []) (hE : D 138 = []) : Calls Tryz.prog 83 #[.pointer (some ⟨g, 0, none⟩)] w fun e w' => e = .returned (.bool true) ∧ Below w.heap.size w w' := by
 obtain ⟨A0, c0, h0⟩ := row_nil h 136 (by decide) hD
 obtain ⟨A2, c2, h2⟩ := row_nil h 138 (by decide) hE
 rw [show slot 136 = 157 from rfl] at h0; rw [show slot 138 = 159 from rfl] at h2
 clear h hD hE
 go_enter Tryz.func83, Tryz.ntmps83
 go_wp2
 go_loop [3] (fun i => i = .int .i64 0) (fun _ => 0)
 case atStart => exact rfl
 case round =>
  subst hrel
  go_wp2
  go_loop [4] (fun i => i = .int .i64 0) (fun _ => 0)
  case atStart => exact rfl
  case round =>
   subst hrel
   go_wp2
   go_ret
   exact ⟨rfl, Below.refl _ _⟩
theorem markGroups_nil (L : Nat → Nat) (base g N : Nat) (w : World) (cs : Array Value) (D : Nat → List Value) (h : BookAt L base w g N cs D) (hD : D 146 = []) : Calls Tryz.prog 174 #[.pointer (some ⟨g, 0, none⟩)] w fun e w' => e = .returned (.tuple #[]) ∧ w' = w := by
 obtain ⟨A2, c2, h2⟩ := row_nil h 146 (by decide) hD
 obtain ⟨A3, c3, h3⟩ := row_any h 147 (by decide)
 obtain ⟨A5, c5, h5⟩ := row_any h 149 (by decide)
 obtain ⟨A6, c6, h6⟩ := row_any h 150 (by decide)
 rw [show slot 146 = 168 from rfl] at h2; rw [show slot 147 = 169 from rfl] at h3; rw [show slot 149 = 171 from rfl] at h5; rw [show slot 150 = 172 from rfl] at h6
 generalize (D 147).length = n3 at h3; generalize (D 149).length = n5 at h5; generalize (D 150).length = n6 at h6
 clear h hD
 go_enter Tryz.func174, Tryz.ntmps174
 go_wp2
 first | go_end0 | ((try simp only [Exit.inBlock, Exit.then]); refine bodyPost_ret (results_none rfl _ _ _) rfl ?_)
 exact ⟨rfl, rfl⟩
theorem growGroups_nil (L : Nat → Nat) (base g N : Nat) (w : World) (cs : Array Value) (D : Nat → List Value) (h : BookAt L base w g N cs D) {now bad : Bool} {turn deep : Int} {seen : Nat → Int} (hs : Sc cs now bad turn deep seen) (hD : D 148 = []) (hE : D 151 = []) : Calls Tryz.prog 195 #[.pointer (some ⟨g, 0, none⟩)] w fun e w' => e = .returned (.tuple #[]) ∧ ∃ cs', BookAt L base w' g N cs' D ∧ Sc cs' now bad turn deep seen ∧ Only Bl L w L w' ∧ Same3 w w' := by
 obtain ⟨A4, c4, h4⟩ := row_nil h 148 (by decide) hD
 obtain ⟨A7, c7, h7⟩ := row_nil h 151 (by decide) hE
 rw [show slot 148 = 170 from rfl] at h4; rw [show slot 151 = 173 from rfl] at h7
 have f4 := blk_frozen h.blk 170; have f7 := blk_frozen h.blk 173
 have H := am h; have HS := am hs; have HD := am hD; have HE := am hE
 clear h hs hD hE
 go_enter Tryz.func195, Tryz.ntmps195
 go_wp2
 go_loop [2] (fun i => i = .int .i64 0) (fun _ => 0)
 case atStart => exact rfl
 case round =>
  subst hrel
  go_wp2
  first | go_end0 | ((try simp only [Exit.inBlock, Exit.then]); refine bodyPost_ret (results_none rfl _ _ _) rfl ?_)
  obtain ⟨b1, o1⟩ := H.out.clear0 (i := 148) (by decide)
  rw [put_nil HD.out] at b1
  obtain ⟨b2, o2⟩ := b1.clear0 (i := 151) (by decide)
  rw [put_nil HE.out] at b2
  exact ⟨rfl, _, b2, (HS.out.row _ _ (by decide)).row _ _ (by decide), o1.trans o2, ⟨rfl, rfl, rfl⟩⟩
theorem holdGroups_nil (L : Nat → Nat) (base g N : Nat) (w : World) (cs : Array Value) (D : Nat → List Value) (h : BookAt L base w g N cs D) (hD : D 144 = []) (hE : D 146 = []) : Calls Tryz.prog 84 #[.pointer (some ⟨g, 0, none⟩)] w fun e w' => e = .returned (.bool true) ∧ Below w.heap.size w w' := by
 obtain ⟨A0, c0, h0⟩ := row_nil h 144 (by decide) hD
 obtain ⟨A2, c2, h2⟩ := row_nil h 146 (by decide) hE
 rw [show slot 144 = 166 from rfl] at h0; rw [show slot 146 = 168 from rfl] at h2
 clear h hD hE
 go_enter Tryz.func84, Tryz.ntmps84
 go_wp2
 go_loop [3] (fun i => i = .int .i64 0) (fun _ => 0)
 case atStart => exact rfl
 case round =>
  subst hrel
  go_wp2
  go_loop [4] (fun i => i = .int .i64 0) (fun _ => 0)
  case atStart => exact rfl
  case round =>
   subst hrel
   go_wp2
   go_ret
   exact ⟨rfl, Below.refl _ _⟩
theorem markChanges_nil (L : Nat → Nat) (base g N : Nat) (w : World) (cs : Array Value) (D : Nat → List Value) (h : BookAt L base w g N cs D) (hD : D 154 = []) : Calls Tryz.prog 175 #[.pointer (some ⟨g, 0, none⟩)] w fun e w' => e = .returned (.tuple #[]) ∧ w' = w := by
 obtain ⟨A2, c2, h2⟩ := row_nil h 154 (by decide) hD
 obtain ⟨A3, c3, h3⟩ := row_any h 155 (by decide)
 obtain ⟨A5, c5, h5⟩ := row_any h 157 (by decide)
 obtain ⟨A6, c6, h6⟩ := row_any h 158 (by decide)
 rw [show slot 154 = 177 from rfl] at h2; rw [show slot 155 = 178 from rfl] at h3; rw [show slot 157 = 180 from rfl] at h5; rw [show slot 158 = 181 from rfl] at h6
 generalize (D 155).length = n3 at h3; generalize (D 157).length = n5 at h5; generalize (D 158).length = n6 at h6
 clear h hD
 go_enter Tryz.func175, Tryz.ntmps175
 go_wp2
 first | go_end0 | ((try simp only [Exit.inBlock, Exit.then]); refine bodyPost_ret (results_none rfl _ _ _) rfl ?_)
 exact ⟨rfl, rfl⟩
theorem growChanges_nil (L : Nat → Nat) (base g N : Nat) (w : World) (cs : Array Value) (D : Nat → List Value) (h : BookAt L base w g N cs D) {now bad : Bool} {turn deep : Int} {seen : Nat → Int} (hs : Sc cs now bad turn deep seen) (hD : D 156 = []) (hE : D 159 = []) : Calls Tryz.prog 196 #[.pointer (some ⟨g, 0, none⟩)] w fun e w' => e = .returned (.tuple #[]) ∧ ∃ cs', BookAt L base w' g N cs' D ∧ Sc cs' now bad turn deep seen ∧ Only Bl L w L w' ∧ Same3 w w' := by
 obtain ⟨A4, c4, h4⟩ := row_nil h 156 (by decide) hD
 obtain ⟨A7, c7, h7⟩ := row_nil h 159 (by decide) hE
 rw [show slot 156 = 179 from rfl] at h4; rw [show slot 159 = 182 from rfl] at h7
 have f4 := blk_frozen h.blk 179; have f7 := blk_frozen h.blk 182
 have H := am h; have HS := am hs; have HD := am hD; have HE := am hE
 clear h hs hD hE
 go_enter Tryz.func196, Tryz.ntmps196
 go_wp2
 go_loop [2] (fun i => i = .int .i64 0) (fun _ => 0)
 case atStart => exact rfl
 case round =>
  subst hrel
  go_wp2
  first | go_end0 | ((try simp only [Exit.inBlock, Exit.then]); refine bodyPost_ret (results_none rfl _ _ _) rfl ?_)
  obtain ⟨b1, o1⟩ := H.out.clear0 (i := 156) (by decide)
  rw [put_nil HD.out] at b1
  obtain ⟨b2, o2⟩ := b1.clear0 (i := 159) (by decide)
  rw [put_nil HE.out] at b2
  exact ⟨rfl, _, b2, (HS.out.row _ _ (by decide)).row _ _ (by decide), o1.trans o2, ⟨rfl, rfl, rfl⟩⟩
theorem holdChanges_nil (L : Nat → Nat) (base g N : Nat) (w : World) (cs : Array Value) (D : Nat → List Value) (h : BookAt L base w g N cs D) (hD : D 152 = []) (hE : D 154 = []) : Calls Tryz.prog 85 #[.pointer (some ⟨g, 0, none⟩)] w fun e w' => e = .returned (.bool true) ∧ Below w.heap.size w w' := by
 obtain ⟨A0, c0, h0⟩ := row_nil h 152 (by decide) hD
 obtain ⟨A2, c2, h2⟩ := row_nil h 154 (by decide) hE
 rw [show slot 152 = 175 from rfl] at h0; rw [show slot 154 = 177 from rfl] at h2
 clear h hD hE
 go_enter Tryz.func85, Tryz.ntmps85
 go_wp2
 go_loop [3] (fun i => i = .int .i64 0) (fun _ => 0)
 case atStart => exact rfl
 case round =>
  subst hrel
  go_wp2
  go_loop [4] (fun i => i = .int .i64 0) (fun _ => 0)
  case atStart => exact rfl
  case round =>
   subst hrel
   go_wp2
   go_ret
   exact ⟨rfl, Below.refl _ _⟩
theorem markSteps_nil (L : Nat → Nat) (base g N : Nat) (w : World) (cs : Array Value) (D : Nat → List Value) (h : BookAt L base w g N cs D) (hD : D 162 = []) : Calls Tryz.prog 176 #[.pointer (some ⟨g, 0, none⟩)] w fun e w' => e = .returned (.tuple #[]) ∧ w' = w := by
 obtain ⟨A2, c2, h2⟩ := row_nil h 162 (by decide) hD
 obtain ⟨A3, c3, h3⟩ := row_any h 163 (by decide)
 obtain ⟨A5, c5, h5⟩ := row_any h 165 (by decide)
 obtain ⟨A6, c6, h6⟩ := row_any h 166 (by decide)
 rw [show slot 162 = 186 from rfl] at h2; rw [show slot 163 = 187 from rfl] at h3; rw [show slot 165 = 189 from rfl] at h5; rw [show slot 166 = 190 from rfl] at h6
 generalize (D 163).length = n3 at h3; generalize (D 165).length = n5 at h5; generalize (D 166).length = n6 at h6
 clear h hD
 go_enter Tryz.func176, Tryz.ntmps176
 go_wp2
 first | go_end0 | ((try simp only [Exit.inBlock, Exit.then]); refine bodyPost_ret (results_none rfl _ _ _) rfl ?_)
 exact ⟨rfl, rfl⟩
theorem growSteps_nil (L : Nat → Nat) (base g N : Nat) (w : World) (cs : Array Value) (D : Nat → List Value) (h : BookAt L base w g N cs D) {now bad : Bool} {turn deep : Int} {seen : Nat → Int} (hs : Sc cs now bad turn deep seen) (hD : D 164 = []) (hE : D 167 = []) : Calls Tryz.prog 197 #[.pointer (some ⟨g, 0, none⟩)] w fun e w' => e = .returned (.tuple #[]) ∧ ∃ cs', BookAt L base w' g N cs' D ∧ Sc cs' now bad turn deep seen ∧ Only Bl L w L w' ∧ Same3 w w' := by
 obtain ⟨A4, c4, h4⟩ := row_nil h 164 (by decide) hD
 obtain ⟨A7, c7, h7⟩ := row_nil h 167 (by decide) hE
 rw [show slot 164 = 188 from rfl] at h4; rw [show slot 167 = 191 from rfl] at h7
 have f4 := blk_frozen h.blk 188; have f7 := blk_frozen h.blk 191
 have H := am h; have HS := am hs; have HD := am hD; have HE := am hE
 clear h hs hD hE
 go_enter Tryz.func197, Tryz.ntmps197
 go_wp2
 go_loop [2] (fun i => i = .int .i64 0) (fun _ => 0)
 case atStart => exact rfl
 case round =>
  subst hrel
  go_wp2
  first | go_end0 | ((try simp only [Exit.inBlock, Exit.then]); refine bodyPost_ret (results_none rfl _ _ _) rfl ?_)
  obtain ⟨b1, o1⟩ := H.out.clear0 (i := 164) (by decide)
  rw [put_nil HD.out] at b1
  obtain ⟨b2, o2⟩ := b1.clear0 (i := 167) (by decide)
  rw [put_nil HE.out] at b2
  exact ⟨rfl, _, b2, (HS.out.row _ _ (by decide)).row _ _ (by decide), o1.trans o2, ⟨rfl, rfl, rfl⟩⟩
theorem holdSteps_nil (L : Nat → Nat) (base g N : Nat) (w : World) (cs : Array Value) (D : Nat → List Value) (h : BookAt L base w g N cs D) (hD : D 160 = []) (hE : D 162 = []) : Calls Tryz.prog 86 #[.pointer (some ⟨g, 0, none⟩)] w fun e w' => e = .returned (.bool true) ∧ Below w.heap.size w w' := by
 obtain ⟨A0, c0, h0⟩ := row_nil h 160 (by decide) hD
 obtain ⟨A2, c2, h2⟩ := row_nil h 162 (by decide) hE
 rw [show slot 160 = 184 from rfl] at h0; rw [show slot 162 = 186 from rfl] at h2
 clear h hD hE
 go_enter Tryz.func86, Tryz.ntmps86
 go_wp2
 go_loop [3] (fun i => i = .int .i64 0) (fun _ => 0)
 case atStart => exact rfl
 case round =>
  subst hrel
  go_wp2
  go_loop [4] (fun i => i = .int .i64 0) (fun _ => 0)
  case atStart => exact rfl
  case round =>
   subst hrel
   go_wp2
   go_ret
   exact ⟨rfl, Below.refl _ _⟩
end Go.Proofs.YtndhkgfeknkfdaaGreatDoor.Rm
