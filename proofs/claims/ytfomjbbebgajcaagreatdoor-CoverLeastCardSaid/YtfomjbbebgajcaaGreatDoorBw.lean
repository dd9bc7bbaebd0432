/- crierkept.Book: kinds of which nothing was noted; due. -/
import Derived.Test.YtfomjbbebgajcaaGreatDoorBk
import Derived.BigQuiet
import Derived.IntWalk
import Derived.Deep.QuietTactic
namespace Go.Proofs.YtfomjbbebgajcaaGreatDoor.Rm
open Go.RowKit Go.Proofs.YtfomjbbebgajcaaGreatDoorW.PrintWords Go.Proofs.YtfomjbbebgajcaaGreatDoorW.PrintLast Go.Proofs.YtfomjbbebgajcaaGreatDoorW.PrintMore Go.Proofs.YtfomjbbebgajcaaGreatDoor.MCoverLeast
open Go.Proofs.YtfomjbbebgajcaaGreatDoorW.PrintWords.Aside0 renaming mk → am
set_option linter.unusedVariables false
set_option linter.unusedSimpArgs false
set_option maxHeartbeats 2000000
set_option maxRecDepth 100000

def bkT : Nat → TypeId := fun i => if 5 ≤ i % 8 then 3 else [72, 29, 22, 75, 77, 79, 81, 28, 84, 86, 88, 90, 92, 94, 96, 98, 100, 102, 104, 106, 108].getD (i / 8) 0
abbrev BookAt := Bok bkT 55
theorem row_nil {L : Nat → Nat} {base g N : Nat} {w : World} {cs : Array Value} {D : Nat → List Value} (h : BookAt L base w g N cs D) (i : Nat) (hi : i < 168) (hD : D i = []) : ∃ A c, w.cell? ⟨g, slot i, none⟩ = some (.slice A 0 c) := by
 obtain ⟨V, hV, _, ho, _⟩ := h.row i hi
 rw [hD] at ho
 obtain ⟨A, c, e⟩ := own_slice ho
 exact ⟨A, c, by rw [show (.slice A 0 c : Value) = V from e.symm]; exact (blk_cell h.blk _).trans hV⟩
theorem row_any {L : Nat → Nat} {base g N : Nat} {w : World} {cs : Array Value} {D : Nat → List Value} (h : BookAt L base w g N cs D) (i : Nat) (hi : i < 168) : ∃ A c, w.cell? ⟨g, slot i, none⟩ = some (.slice A (D i).length c) := by
 obtain ⟨V, hV, _, ho, _⟩ := h.row i hi
 obtain ⟨A, c, e⟩ := own_slice ho
 exact ⟨A, c, by rw [← e]; exact (blk_cell h.blk _).trans hV⟩
theorem put_nil {D : Nat → List Value} {i : Nat} (h : D i = []) : (fun j => if j = i then [] else D j) = D := funext fun j => by
 by_cases e : j = i
 ·rw [if_pos e, e, h]
 ·rw [if_neg e]
theorem cel {L : Nat → Nat} {base g N : Nat} {w : World} {cs : Array Value} {D : Nat → List Value} (h : BookAt L base w g N cs D) (i s : Nat) (hD : D i = []) (hi : i < 168 := by decide) (hs : slot i = s := by rfl) : ∃ A c, w.cell? ⟨g, s, none⟩ = some (.slice A 0 c) := hs ▸ row_nil h i hi hD
theorem cen {L : Nat → Nat} {base g N : Nat} {w : World} {cs : Array Value} {D : Nat → List Value} (h : BookAt L base w g N cs D) (i s : Nat) (hi : i < 168 := by decide) (hs : slot i = s := by rfl) : ∃ A n c, w.cell? ⟨g, s, none⟩ = some (.slice A n c) := by
 obtain ⟨A, c, e⟩ := row_any h i hi
 exact ⟨A, _, c, hs ▸ e⟩
theorem two0 {L : Nat → Nat} {base g N : Nat} {w : World} {cs : Array Value} {D : Nat → List Value} {now bad : Bool} {turn deep : Int} {seen : Nat → Int} (h : BookAt L base w g N cs D) (hs : Sc cs now bad turn deep seen) (i j : Nat) (hD : D i = []) (hE : D j = []) (hi : i < 168 := by decide) (hj : j < 168 := by decide) :
  ∃ cs', BookAt L base ((w.setCell ⟨g, slot i, none⟩ (.slice none 0 0)).setCell ⟨g, slot j, none⟩ (.slice none 0 0)) g N cs' D ∧ Sc cs' now bad turn deep seen ∧ Only Bl L w L ((w.setCell ⟨g, slot i, none⟩ (.slice none 0 0)).setCell ⟨g, slot j, none⟩ (.slice none 0 0)) ∧ Same3 w ((w.setCell ⟨g, slot i, none⟩ (.slice none 0 0)).setCell ⟨g, slot j, none⟩ (.slice none 0 0)) := by
 obtain ⟨b1, o1⟩ := h.clear0 (i := i) hi
 rw [put_nil hD] at b1
 obtain ⟨b2, o2⟩ := b1.clear0 (i := j) hj
 rw [put_nil hE] at b2
 exact ⟨_, b2, (hs.row _ _ hi).row _ _ hj, o1.trans o2, ⟨rfl, rfl, rfl⟩⟩
section
variable (L : Nat → Nat) (base g N : Nat) (w : World) (cs : Array Value) (D : Nat → List Value)
theorem markBytes_nil (h : BookAt L base w g N cs D) (hD : D 2 = []) : Calls Tryz.prog 101 #[.pointer (some ⟨g, 0, none⟩)] w fun e w' => e = .returned (.tuple #[]) ∧ w' = w := by
 obtain ⟨_, _, h2⟩ := cel h 2 6 hD; obtain ⟨_, _, _, h3⟩ := cen h 3 7; obtain ⟨_, _, _, h5⟩ := cen h 5 9; obtain ⟨_, _, _, h6⟩ := cen h 6 10
 clear h hD; go_enter Tryz.func101, Tryz.ntmps101
 go_wp2; (try simp only [Exit.inBlock, Exit.then]); refine bodyPost_ret (results_none rfl _ _ _) rfl ?_
 exact ⟨rfl, rfl⟩
theorem growBytes_nil (h : BookAt L base w g N cs D) {now bad : Bool} {turn deep : Int} {seen : Nat → Int} (hs : Sc cs now bad turn deep seen) (hD : D 4 = []) (hE : D 7 = []) : Calls Tryz.prog 122 #[.pointer (some ⟨g, 0, none⟩)] w fun e w' => e = .returned (.tuple #[]) ∧ ∃ cs', BookAt L base w' g N cs' D ∧ Sc cs' now bad turn deep seen ∧ Only Bl L w L w' ∧ Same3 w w' := by
 obtain ⟨_, _, h4⟩ := cel h 4 8 hD; obtain ⟨_, _, h7⟩ := cel h 7 11 hE
 have f4 := blk_frozen h.blk 8; have f7 := blk_frozen h.blk 11; have H := am (two0 h hs 4 7 hD hE)
 clear h hs hD hE; go_enter Tryz.func122, Tryz.ntmps122
 go_wp2
 go_loop [2] (fun i => i = .int .i64 0) (fun _ => 0)
 case atStart => exact rfl
 case round =>
  subst hrel; go_wp2
  go_end0
  exact ⟨rfl, H.out⟩
theorem holdBytes_nil (h : BookAt L base w g N cs D) (hD : D 0 = []) (hE : D 2 = []) : Calls Tryz.prog 20 #[.pointer (some ⟨g, 0, none⟩)] w fun e w' => e = .returned (.bool true) ∧ Below w.heap.size w w' := by
 obtain ⟨_, _, h0⟩ := cel h 0 4 hD; obtain ⟨_, _, h2⟩ := cel h 2 6 hE
 clear h hD hE; go_enter Tryz.func20, Tryz.ntmps20
 go_wp2
 go_loop [3] (fun i => i = .int .i64 0) (fun _ => 0)
 case atStart => exact rfl
 case round =>
  subst hrel; go_wp2
  go_loop [4] (fun i => i = .int .i64 0) (fun _ => 0)
  case atStart => exact rfl
  case round => subst hrel; go_wp2; go_ret; exact ⟨rfl, Below.refl _ _⟩
theorem markInts_nil (h : BookAt L base w g N cs D) (hD : D 10 = []) : Calls Tryz.prog 102 #[.pointer (some ⟨g, 0, none⟩)] w fun e w' => e = .returned (.tuple #[]) ∧ w' = w := by
 obtain ⟨_, _, h2⟩ := cel h 10 15 hD; obtain ⟨_, _, _, h3⟩ := cen h 11 16; obtain ⟨_, _, _, h5⟩ := cen h 13 18; obtain ⟨_, _, _, h6⟩ := cen h 14 19
 clear h hD; go_enter Tryz.func102, Tryz.ntmps102
 go_wp2; (try simp only [Exit.inBlock, Exit.then]); refine bodyPost_ret (results_none rfl _ _ _) rfl ?_
 exact ⟨rfl, rfl⟩
theorem growInts_nil (h : BookAt L base w g N cs D) {now bad : Bool} {turn deep : Int} {seen : Nat → Int} (hs : Sc cs now bad turn deep seen) (hD : D 12 = []) (hE : D 15 = []) : Calls Tryz.prog 123 #[.pointer (some ⟨g, 0, none⟩)] w fun e w' => e = .returned (.tuple #[]) ∧ ∃ cs', BookAt L base w' g N cs' D ∧ Sc cs' now bad turn deep seen ∧ Only Bl L w L w' ∧ Same3 w w' := by
 obtain ⟨_, _, h4⟩ := cel h 12 17 hD; obtain ⟨_, _, h7⟩ := cel h 15 20 hE
 have f4 := blk_frozen h.blk 17; have f7 := blk_frozen h.blk 20; have H := am (two0 h hs 12 15 hD hE)
 clear h hs hD hE; go_enter Tryz.func123, Tryz.ntmps123
 go_wp2
 go_loop [2] (fun i => i = .int .i64 0) (fun _ => 0)
 case atStart => exact rfl
 case round =>
  subst hrel; go_wp2
  go_end0
  exact ⟨rfl, H.out⟩
theorem holdInts_nil (h : BookAt L base w g N cs D) (hD : D 8 = []) (hE : D 10 = []) : Calls Tryz.prog 21 #[.pointer (some ⟨g, 0, none⟩)] w fun e w' => e = .returned (.bool true) ∧ Below w.heap.size w w' := by
 obtain ⟨_, _, h0⟩ := cel h 8 13 hD; obtain ⟨_, _, h2⟩ := cel h 10 15 hE
 clear h hD hE; go_enter Tryz.func21, Tryz.ntmps21
 go_wp2
 go_loop [3] (fun i => i = .int .i64 0) (fun _ => 0)
 case atStart => exact rfl
 case round =>
  subst hrel; go_wp2
  go_loop [4] (fun i => i = .int .i64 0) (fun _ => 0)
  case atStart => exact rfl
  case round => subst hrel; go_wp2; go_ret; exact ⟨rfl, Below.refl _ _⟩
theorem markTexts_nil (h : BookAt L base w g N cs D) (hD : D 18 = []) : Calls Tryz.prog 103 #[.pointer (some ⟨g, 0, none⟩)] w fun e w' => e = .returned (.tuple #[]) ∧ w' = w := by
 obtain ⟨_, _, h2⟩ := cel h 18 24 hD; obtain ⟨_, _, _, h3⟩ := cen h 19 25; obtain ⟨_, _, _, h5⟩ := cen h 21 27; obtain ⟨_, _, _, h6⟩ := cen h 22 28
 clear h hD; go_enter Tryz.func103, Tryz.ntmps103
 go_wp2; (try simp only [Exit.inBlock, Exit.then]); refine bodyPost_ret (results_none rfl _ _ _) rfl ?_
 exact ⟨rfl, rfl⟩
theorem markEntries_nil (h : BookAt L base w g N cs D) (hD : D 26 = []) : Calls Tryz.prog 104 #[.pointer (some ⟨g, 0, none⟩)] w fun e w' => e = .returned (.tuple #[]) ∧ w' = w := by
 obtain ⟨_, _, h2⟩ := cel h 26 33 hD; obtain ⟨_, _, _, h3⟩ := cen h 27 34; obtain ⟨_, _, _, h5⟩ := cen h 29 36; obtain ⟨_, _, _, h6⟩ := cen h 30 37
 clear h hD; go_enter Tryz.func104, Tryz.ntmps104
 go_wp2; (try simp only [Exit.inBlock, Exit.then]); refine bodyPost_ret (results_none rfl _ _ _) rfl ?_
 exact ⟨rfl, rfl⟩
theorem growEntries_nil (h : BookAt L base w g N cs D) {now bad : Bool} {turn deep : Int} {seen : Nat → Int} (hs : Sc cs now bad turn deep seen) (hD : D 28 = []) (hE : D 31 = []) : Calls Tryz.prog 125 #[.pointer (some ⟨g, 0, none⟩)] w fun e w' => e = .returned (.tuple #[]) ∧ ∃ cs', BookAt L base w' g N cs' D ∧ Sc cs' now bad turn deep seen ∧ Only Bl L w L w' ∧ Same3 w w' := by
 obtain ⟨_, _, h4⟩ := cel h 28 35 hD; obtain ⟨_, _, h7⟩ := cel h 31 38 hE
 have f4 := blk_frozen h.blk 35; have f7 := blk_frozen h.blk 38; have H := am (two0 h hs 28 31 hD hE)
 clear h hs hD hE; go_enter Tryz.func125, Tryz.ntmps125
 go_wp2
 go_loop [2] (fun i => i = .int .i64 0) (fun _ => 0)
 case atStart => exact rfl
 case round =>
  subst hrel; go_wp2
  go_end0
  exact ⟨rfl, H.out⟩
theorem holdEntries_nil (h : BookAt L base w g N cs D) (hD : D 24 = []) (hE : D 26 = []) : Calls Tryz.prog 23 #[.pointer (some ⟨g, 0, none⟩)] w fun e w' => e = .returned (.bool true) ∧ Below w.heap.size w w' := by
 obtain ⟨_, _, h0⟩ := cel h 24 31 hD; obtain ⟨_, _, h2⟩ := cel h 26 33 hE
 clear h hD hE; go_enter Tryz.func23, Tryz.ntmps23
 go_wp2
 go_loop [3] (fun i => i = .int .i64 0) (fun _ => 0)
 case atStart => exact rfl
 case round =>
  subst hrel; go_wp2
  go_loop [4] (fun i => i = .int .i64 0) (fun _ => 0)
  case atStart => exact rfl
  case round => subst hrel; go_wp2; go_ret; exact ⟨rfl, Below.refl _ _⟩
theorem markAsks_nil (h : BookAt L base w g N cs D) (hD : D 34 = []) : Calls Tryz.prog 105 #[.pointer (some ⟨g, 0, none⟩)] w fun e w' => e = .returned (.tuple #[]) ∧ w' = w := by
 obtain ⟨_, _, h2⟩ := cel h 34 42 hD; obtain ⟨_, _, _, h3⟩ := cen h 35 43; obtain ⟨_, _, _, h5⟩ := cen h 37 45; obtain ⟨_, _, _, h6⟩ := cen h 38 46
 clear h hD; go_enter Tryz.func105, Tryz.ntmps105
 go_wp2; (try simp only [Exit.inBlock, Exit.then]); refine bodyPost_ret (results_none rfl _ _ _) rfl ?_
 exact ⟨rfl, rfl⟩
theorem growAsks_nil (h : BookAt L base w g N cs D) {now bad : Bool} {turn deep : Int} {seen : Nat → Int} (hs : Sc cs now bad turn deep seen) (hD : D 36 = []) (hE : D 39 = []) : Calls Tryz.prog 126 #[.pointer (some ⟨g, 0, none⟩)] w fun e w' => e = .returned (.tuple #[]) ∧ ∃ cs', BookAt L base w' g N cs' D ∧ Sc cs' now bad turn deep seen ∧ Only Bl L w L w' ∧ Same3 w w' := by
 obtain ⟨_, _, h4⟩ := cel h 36 44 hD; obtain ⟨_, _, h7⟩ := cel h 39 47 hE
 have f4 := blk_frozen h.blk 44; have f7 := blk_frozen h.blk 47; have H := am (two0 h hs 36 39 hD hE)
 clear h hs hD hE; go_enter Tryz.func126, Tryz.ntmps126
 go_wp2
 go_loop [2] (fun i => i = .int .i64 0) (fun _ => 0)
 case atStart => exact rfl
 case round =>
  subst hrel; go_wp2
  go_end0
  exact ⟨rfl, H.out⟩
theorem holdAsks_nil (h : BookAt L base w g N cs D) (hD : D 32 = []) (hE : D 34 = []) : Calls Tryz.prog 24 #[.pointer (some ⟨g, 0, none⟩)] w fun e w' => e = .returned (.bool true) ∧ Below w.heap.size w w' := by
 obtain ⟨_, _, h0⟩ := cel h 32 40 hD; obtain ⟨_, _, h2⟩ := cel h 34 42 hE
 clear h hD hE; go_enter Tryz.func24, Tryz.ntmps24
 go_wp2
 go_loop [3] (fun i => i = .int .i64 0) (fun _ => 0)
 case atStart => exact rfl
 case round =>
  subst hrel; go_wp2
  go_loop [4] (fun i => i = .int .i64 0) (fun _ => 0)
  case atStart => exact rfl
  case round => subst hrel; go_wp2; go_ret; exact ⟨rfl, Below.refl _ _⟩
theorem markUsers_nil (h : BookAt L base w g N cs D) (hD : D 42 = []) : Calls Tryz.prog 106 #[.pointer (some ⟨g, 0, none⟩)] w fun e w' => e = .returned (.tuple #[]) ∧ w' = w := by
 obtain ⟨_, _, h2⟩ := cel h 42 51 hD; obtain ⟨_, _, _, h3⟩ := cen h 43 52; obtain ⟨_, _, _, h5⟩ := cen h 45 54; obtain ⟨_, _, _, h6⟩ := cen h 46 55
 clear h hD; go_enter Tryz.func106, Tryz.ntmps106
 go_wp2; (try simp only [Exit.inBlock, Exit.then]); refine bodyPost_ret (results_none rfl _ _ _) rfl ?_
 exact ⟨rfl, rfl⟩
theorem growUsers_nil (h : BookAt L base w g N cs D) {now bad : Bool} {turn deep : Int} {seen : Nat → Int} (hs : Sc cs now bad turn deep seen) (hD : D 44 = []) (hE : D 47 = []) : Calls Tryz.prog 127 #[.pointer (some ⟨g, 0, none⟩)] w fun e w' => e = .returned (.tuple #[]) ∧ ∃ cs', BookAt L base w' g N cs' D ∧ Sc cs' now bad turn deep seen ∧ Only Bl L w L w' ∧ Same3 w w' := by
 obtain ⟨_, _, h4⟩ := cel h 44 53 hD; obtain ⟨_, _, h7⟩ := cel h 47 56 hE
 have f4 := blk_frozen h.blk 53; have f7 := blk_frozen h.blk 56; have H := am (two0 h hs 44 47 hD hE)
 clear h hs hD hE; go_enter Tryz.func127, Tryz.ntmps127
 go_wp2
 go_loop [2] (fun i => i = .int .i64 0) (fun _ => 0)
 case atStart => exact rfl
 case round =>
  subst hrel; go_wp2
  go_end0
  exact ⟨rfl, H.out⟩
theorem holdUsers_nil (h : BookAt L base w g N cs D) (hD : D 40 = []) (hE : D 42 = []) : Calls Tryz.prog 25 #[.pointer (some ⟨g, 0, none⟩)] w fun e w' => e = .returned (.bool true) ∧ Below w.heap.size w w' := by
 obtain ⟨_, _, h0⟩ := cel h 40 49 hD; obtain ⟨_, _, h2⟩ := cel h 42 51 hE
 clear h hD hE; go_enter Tryz.func25, Tryz.ntmps25
 go_wp2
 go_loop [3] (fun i => i = .int .i64 0) (fun _ => 0)
 case atStart => exact rfl
 case round =>
  subst hrel; go_wp2
  go_loop [4] (fun i => i = .int .i64 0) (fun _ => 0)
  case atStart => exact rfl
  case round => subst hrel; go_wp2; go_ret; exact ⟨rfl, Below.refl _ _⟩
theorem markWhos_nil (h : BookAt L base w g N cs D) (hD : D 50 = []) : Calls Tryz.prog 107 #[.pointer (some ⟨g, 0, none⟩)] w fun e w' => e = .returned (.tuple #[]) ∧ w' = w := by
 obtain ⟨_, _, h2⟩ := cel h 50 60 hD; obtain ⟨_, _, _, h3⟩ := cen h 51 61; obtain ⟨_, _, _, h5⟩ := cen h 53 63; obtain ⟨_, _, _, h6⟩ := cen h 54 64
 clear h hD; go_enter Tryz.func107, Tryz.ntmps107
 go_wp2; (try simp only [Exit.inBlock, Exit.then]); refine bodyPost_ret (results_none rfl _ _ _) rfl ?_
 exact ⟨rfl, rfl⟩
theorem growWhos_nil (h : BookAt L base w g N cs D) {now bad : Bool} {turn deep : Int} {seen : Nat → Int} (hs : Sc cs now bad turn deep seen) (hD : D 52 = []) (hE : D 55 = []) : Calls Tryz.prog 128 #[.pointer (some ⟨g, 0, none⟩)] w fun e w' => e = .returned (.tuple #[]) ∧ ∃ cs', BookAt L base w' g N cs' D ∧ Sc cs' now bad turn deep seen ∧ Only Bl L w L w' ∧ Same3 w w' := by
 obtain ⟨_, _, h4⟩ := cel h 52 62 hD; obtain ⟨_, _, h7⟩ := cel h 55 65 hE
 have f4 := blk_frozen h.blk 62; have f7 := blk_frozen h.blk 65; have H := am (two0 h hs 52 55 hD hE)
 clear h hs hD hE; go_enter Tryz.func128, Tryz.ntmps128
 go_wp2
 go_loop [2] (fun i => i = .int .i64 0) (fun _ => 0)
 case atStart => exact rfl
 case round =>
  subst hrel; go_wp2
  go_end0
  exact ⟨rfl, H.out⟩
theorem holdWhos_nil (h : BookAt L base w g N cs D) (hD : D 48 = []) (hE : D 50 = []) : Calls Tryz.prog 26 #[.pointer (some ⟨g, 0, none⟩)] w fun e w' => e = .returned (.bool true) ∧ Below w.heap.size w w' := by
 obtain ⟨_, _, h0⟩ := cel h 48 58 hD; obtain ⟨_, _, h2⟩ := cel h 50 60 hE
 clear h hD hE; go_enter Tryz.func26, Tryz.ntmps26
 go_wp2
 go_loop [3] (fun i => i = .int .i64 0) (fun _ => 0)
 case atStart => exact rfl
 case round =>
  subst hrel; go_wp2
  go_loop [4] (fun i => i = .int .i64 0) (fun _ => 0)
  case atStart => exact rfl
  case round => subst hrel; go_wp2; go_ret; exact ⟨rfl, Below.refl _ _⟩
theorem markChunks_nil (h : BookAt L base w g N cs D) (hD : D 58 = []) : Calls Tryz.prog 108 #[.pointer (some ⟨g, 0, none⟩)] w fun e w' => e = .returned (.tuple #[]) ∧ w' = w := by
 obtain ⟨_, _, h2⟩ := cel h 58 69 hD; obtain ⟨_, _, _, h3⟩ := cen h 59 70; obtain ⟨_, _, _, h5⟩ := cen h 61 72; obtain ⟨_, _, _, h6⟩ := cen h 62 73
 clear h hD; go_enter Tryz.func108, Tryz.ntmps108
 go_wp2; (try simp only [Exit.inBlock, Exit.then]); refine bodyPost_ret (results_none rfl _ _ _) rfl ?_
 exact ⟨rfl, rfl⟩
theorem growChunks_nil (h : BookAt L base w g N cs D) {now bad : Bool} {turn deep : Int} {seen : Nat → Int} (hs : Sc cs now bad turn deep seen) (hD : D 60 = []) (hE : D 63 = []) : Calls Tryz.prog 129 #[.pointer (some ⟨g, 0, none⟩)] w fun e w' => e = .returned (.tuple #[]) ∧ ∃ cs', BookAt L base w' g N cs' D ∧ Sc cs' now bad turn deep seen ∧ Only Bl L w L w' ∧ Same3 w w' := by
 obtain ⟨_, _, h4⟩ := cel h 60 71 hD; obtain ⟨_, _, h7⟩ := cel h 63 74 hE
 have f4 := blk_frozen h.blk 71; have f7 := blk_frozen h.blk 74; have H := am (two0 h hs 60 63 hD hE)
 clear h hs hD hE; go_enter Tryz.func129, Tryz.ntmps129
 go_wp2
 go_loop [2] (fun i => i = .int .i64 0) (fun _ => 0)
 case atStart => exact rfl
 case round =>
  subst hrel; go_wp2
  go_end0
  exact ⟨rfl, H.out⟩
theorem holdChunks_nil (h : BookAt L base w g N cs D) (hD : D 56 = []) (hE : D 58 = []) : Calls Tryz.prog 27 #[.pointer (some ⟨g, 0, none⟩)] w fun e w' => e = .returned (.bool true) ∧ Below w.heap.size w w' := by
 obtain ⟨_, _, h0⟩ := cel h 56 67 hD; obtain ⟨_, _, h2⟩ := cel h 58 69 hE
 clear h hD hE; go_enter Tryz.func27, Tryz.ntmps27
 go_wp2
 go_loop [3] (fun i => i = .int .i64 0) (fun _ => 0)
 case atStart => exact rfl
 case round =>
  subst hrel; go_wp2
  go_loop [4] (fun i => i = .int .i64 0) (fun _ => 0)
  case atStart => exact rfl
  case round => subst hrel; go_wp2; go_ret; exact ⟨rfl, Below.refl _ _⟩
theorem markMessages_nil (h : BookAt L base w g N cs D) (hD : D 66 = []) : Calls Tryz.prog 109 #[.pointer (some ⟨g, 0, none⟩)] w fun e w' => e = .returned (.tuple #[]) ∧ w' = w := by
 obtain ⟨_, _, h2⟩ := cel h 66 78 hD; obtain ⟨_, _, _, h3⟩ := cen h 67 79; obtain ⟨_, _, _, h5⟩ := cen h 69 81; obtain ⟨_, _, _, h6⟩ := cen h 70 82
 clear h hD; go_enter Tryz.func109, Tryz.ntmps109
 go_wp2; (try simp only [Exit.inBlock, Exit.then]); refine bodyPost_ret (results_none rfl _ _ _) rfl ?_
 exact ⟨rfl, rfl⟩
theorem growMessages_nil (h : BookAt L base w g N cs D) {now bad : Bool} {turn deep : Int} {seen : Nat → Int} (hs : Sc cs now bad turn deep seen) (hD : D 68 = []) (hE : D 71 = []) : Calls Tryz.prog 130 #[.pointer (some ⟨g, 0, none⟩)] w fun e w' => e = .returned (.tuple #[]) ∧ ∃ cs', BookAt L base w' g N cs' D ∧ Sc cs' now bad turn deep seen ∧ Only Bl L w L w' ∧ Same3 w w' := by
 obtain ⟨_, _, h4⟩ := cel h 68 80 hD; obtain ⟨_, _, h7⟩ := cel h 71 83 hE
 have f4 := blk_frozen h.blk 80; have f7 := blk_frozen h.blk 83; have H := am (two0 h hs 68 71 hD hE)
 clear h hs hD hE; go_enter Tryz.func130, Tryz.ntmps130
 go_wp2
 go_loop [2] (fun i => i = .int .i64 0) (fun _ => 0)
 case atStart => exact rfl
 case round =>
  subst hrel; go_wp2
  go_end0
  exact ⟨rfl, H.out⟩
theorem holdMessages_nil (h : BookAt L base w g N cs D) (hD : D 64 = []) (hE : D 66 = []) : Calls Tryz.prog 28 #[.pointer (some ⟨g, 0, none⟩)] w fun e w' => e = .returned (.bool true) ∧ Below w.heap.size w w' := by
 obtain ⟨_, _, h0⟩ := cel h 64 76 hD; obtain ⟨_, _, h2⟩ := cel h 66 78 hE
 clear h hD hE; go_enter Tryz.func28, Tryz.ntmps28
 go_wp2
 go_loop [3] (fun i => i = .int .i64 0) (fun _ => 0)
 case atStart => exact rfl
 case round =>
  subst hrel; go_wp2
  go_loop [4] (fun i => i = .int .i64 0) (fun _ => 0)
  case atStart => exact rfl
  case round => subst hrel; go_wp2; go_ret; exact ⟨rfl, Below.refl _ _⟩
theorem markPackets_nil (h : BookAt L base w g N cs D) (hD : D 74 = []) : Calls Tryz.prog 110 #[.pointer (some ⟨g, 0, none⟩)] w fun e w' => e = .returned (.tuple #[]) ∧ w' = w := by
 obtain ⟨_, _, h2⟩ := cel h 74 87 hD; obtain ⟨_, _, _, h3⟩ := cen h 75 88; obtain ⟨_, _, _, h5⟩ := cen h 77 90; obtain ⟨_, _, _, h6⟩ := cen h 78 91
 clear h hD; go_enter Tryz.func110, Tryz.ntmps110
 go_wp2; (try simp only [Exit.inBlock, Exit.then]); refine bodyPost_ret (results_none rfl _ _ _) rfl ?_
 exact ⟨rfl, rfl⟩
theorem growPackets_nil (h : BookAt L base w g N cs D) {now bad : Bool} {turn deep : Int} {seen : Nat → Int} (hs : Sc cs now bad turn deep seen) (hD : D 76 = []) (hE : D 79 = []) : Calls Tryz.prog 131 #[.pointer (some ⟨g, 0, none⟩)] w fun e w' => e = .returned (.tuple #[]) ∧ ∃ cs', BookAt L base w' g N cs' D ∧ Sc cs' now bad turn deep seen ∧ Only Bl L w L w' ∧ Same3 w w' := by
 obtain ⟨_, _, h4⟩ := cel h 76 89 hD; obtain ⟨_, _, h7⟩ := cel h 79 92 hE
 have f4 := blk_frozen h.blk 89; have f7 := blk_frozen h.blk 92; have H := am (two0 h hs 76 79 hD hE)
 clear h hs hD hE; go_enter Tryz.func131, Tryz.ntmps131
 go_wp2
 go_loop [2] (fun i => i = .int .i64 0) (fun _ => 0)
 case atStart => exact rfl
 case round =>
  subst hrel; go_wp2
  go_end0
  exact ⟨rfl, H.out⟩
theorem holdPackets_nil (h : BookAt L base w g N cs D) (hD : D 72 = []) (hE : D 74 = []) : Calls Tryz.prog 29 #[.pointer (some ⟨g, 0, none⟩)] w fun e w' => e = .returned (.bool true) ∧ Below w.heap.size w w' := by
 obtain ⟨_, _, h0⟩ := cel h 72 85 hD; obtain ⟨_, _, h2⟩ := cel h 74 87 hE
 clear h hD hE; go_enter Tryz.func29, Tryz.ntmps29
 go_wp2
 go_loop [3] (fun i => i = .int .i64 0) (fun _ => 0)
 case atStart => exact rfl
 case round =>
  subst hrel; go_wp2
  go_loop [4] (fun i => i = .int .i64 0) (fun _ => 0)
  case atStart => exact rfl
  case round => subst hrel; go_wp2; go_ret; exact ⟨rfl, Below.refl _ _⟩
theorem markFlights_nil (h : BookAt L base w g N cs D) (hD : D 82 = []) : Calls Tryz.prog 111 #[.pointer (some ⟨g, 0, none⟩)] w fun e w' => e = .returned (.tuple #[]) ∧ w' = w := by
 obtain ⟨_, _, h2⟩ := cel h 82 96 hD; obtain ⟨_, _, _, h3⟩ := cen h 83 97; obtain ⟨_, _, _, h5⟩ := cen h 85 99; obtain ⟨_, _, _, h6⟩ := cen h 86 100
 clear h hD; go_enter Tryz.func111, Tryz.ntmps111
 go_wp2; (try simp only [Exit.inBlock, Exit.then]); refine bodyPost_ret (results_none rfl _ _ _) rfl ?_
 exact ⟨rfl, rfl⟩
theorem growFlights_nil (h : BookAt L base w g N cs D) {now bad : Bool} {turn deep : Int} {seen : Nat → Int} (hs : Sc cs now bad turn deep seen) (hD : D 84 = []) (hE : D 87 = []) : Calls Tryz.prog 132 #[.pointer (some ⟨g, 0, none⟩)] w fun e w' => e = .returned (.tuple #[]) ∧ ∃ cs', BookAt L base w' g N cs' D ∧ Sc cs' now bad turn deep seen ∧ Only Bl L w L w' ∧ Same3 w w' := by
 obtain ⟨_, _, h4⟩ := cel h 84 98 hD; obtain ⟨_, _, h7⟩ := cel h 87 101 hE
 have f4 := blk_frozen h.blk 98; have f7 := blk_frozen h.blk 101; have H := am (two0 h hs 84 87 hD hE)
 clear h hs hD hE; go_enter Tryz.func132, Tryz.ntmps132
 go_wp2
 go_loop [2] (fun i => i = .int .i64 0) (fun _ => 0)
 case atStart => exact rfl
 case round =>
  subst hrel; go_wp2
  go_end0
  exact ⟨rfl, H.out⟩
theorem holdFlights_nil (h : BookAt L base w g N cs D) (hD : D 80 = []) (hE : D 82 = []) : Calls Tryz.prog 30 #[.pointer (some ⟨g, 0, none⟩)] w fun e w' => e = .returned (.bool true) ∧ Below w.heap.size w w' := by
 obtain ⟨_, _, h0⟩ := cel h 80 94 hD; obtain ⟨_, _, h2⟩ := cel h 82 96 hE
 clear h hD hE; go_enter Tryz.func30, Tryz.ntmps30
 go_wp2
 go_loop [3] (fun i => i = .int .i64 0) (fun _ => 0)
 case atStart => exact rfl
 case round =>
  subst hrel; go_wp2
  go_loop [4] (fun i => i = .int .i64 0) (fun _ => 0)
  case atStart => exact rfl
  case round => subst hrel; go_wp2; go_ret; exact ⟨rfl, Below.refl _ _⟩
theorem markOuts_nil (h : BookAt L base w g N cs D) (hD : D 90 = []) : Calls Tryz.prog 112 #[.pointer (some ⟨g, 0, none⟩)] w fun e w' => e = .returned (.tuple #[]) ∧ w' = w := by
 obtain ⟨_, _, h2⟩ := cel h 90 105 hD; obtain ⟨_, _, _, h3⟩ := cen h 91 106; obtain ⟨_, _, _, h5⟩ := cen h 93 108; obtain ⟨_, _, _, h6⟩ := cen h 94 109
 clear h hD; go_enter Tryz.func112, Tryz.ntmps112
 go_wp2; (try simp only [Exit.inBlock, Exit.then]); refine bodyPost_ret (results_none rfl _ _ _) rfl ?_
 exact ⟨rfl, rfl⟩
theorem growOuts_nil (h : BookAt L base w g N cs D) {now bad : Bool} {turn deep : Int} {seen : Nat → Int} (hs : Sc cs now bad turn deep seen) (hD : D 92 = []) (hE : D 95 = []) : Calls Tryz.prog 133 #[.pointer (some ⟨g, 0, none⟩)] w fun e w' => e = .returned (.tuple #[]) ∧ ∃ cs', BookAt L base w' g N cs' D ∧ Sc cs' now bad turn deep seen ∧ Only Bl L w L w' ∧ Same3 w w' := by
 obtain ⟨_, _, h4⟩ := cel h 92 107 hD; obtain ⟨_, _, h7⟩ := cel h 95 110 hE
 have f4 := blk_frozen h.blk 107; have f7 := blk_frozen h.blk 110; have H := am (two0 h hs 92 95 hD hE)
 clear h hs hD hE; go_enter Tryz.func133, Tryz.ntmps133
 go_wp2
 go_loop [2] (fun i => i = .int .i64 0) (fun _ => 0)
 case atStart => exact rfl
 case round =>
  subst hrel; go_wp2
  go_end0
  exact ⟨rfl, H.out⟩
theorem holdOuts_nil (h : BookAt L base w g N cs D) (hD : D 88 = []) (hE : D 90 = []) : Calls Tryz.prog 31 #[.pointer (some ⟨g, 0, none⟩)] w fun e w' => e = .returned (.bool true) ∧ Below w.heap.size w w' := by
 obtain ⟨_, _, h0⟩ := cel h 88 103 hD; obtain ⟨_, _, h2⟩ := cel h 90 105 hE
 clear h hD hE; go_enter Tryz.func31, Tryz.ntmps31
 go_wp2
 go_loop [3] (fun i => i = .int .i64 0) (fun _ => 0)
 case atStart => exact rfl
 case round =>
  subst hrel; go_wp2
  go_loop [4] (fun i => i = .int .i64 0) (fun _ => 0)
  case atStart => exact rfl
  case round => subst hrel; go_wp2; go_ret; exact ⟨rfl, Below.refl _ _⟩
theorem markInputs_nil (h : BookAt L base w g N cs D) (hD : D 98 = []) : Calls Tryz.prog 113 #[.pointer (some ⟨g, 0, none⟩)] w fun e w' => e = .returned (.tuple #[]) ∧ w' = w := by
 obtain ⟨_, _, h2⟩ := cel h 98 114 hD; obtain ⟨_, _, _, h3⟩ := cen h 99 115; obtain ⟨_, _, _, h5⟩ := cen h 101 117; obtain ⟨_, _, _, h6⟩ := cen h 102 118
 clear h hD; go_enter Tryz.func113, Tryz.ntmps113
 go_wp2; (try simp only [Exit.inBlock, Exit.then]); refine bodyPost_ret (results_none rfl _ _ _) rfl ?_
 exact ⟨rfl, rfl⟩
theorem growInputs_nil (h : BookAt L base w g N cs D) {now bad : Bool} {turn deep : Int} {seen : Nat → Int} (hs : Sc cs now bad turn deep seen) (hD : D 100 = []) (hE : D 103 = []) : Calls Tryz.prog 134 #[.pointer (some ⟨g, 0, none⟩)] w fun e w' => e = .returned (.tuple #[]) ∧ ∃ cs', BookAt L base w' g N cs' D ∧ Sc cs' now bad turn deep seen ∧ Only Bl L w L w' ∧ Same3 w w' := by
 obtain ⟨_, _, h4⟩ := cel h 100 116 hD; obtain ⟨_, _, h7⟩ := cel h 103 119 hE
 have f4 := blk_frozen h.blk 116; have f7 := blk_frozen h.blk 119; have H := am (two0 h hs 100 103 hD hE)
 clear h hs hD hE; go_enter Tryz.func134, Tryz.ntmps134
 go_wp2
 go_loop [2] (fun i => i = .int .i64 0) (fun _ => 0)
 case atStart => exact rfl
 case round =>
  subst hrel; go_wp2
  go_end0
  exact ⟨rfl, H.out⟩
theorem holdInputs_nil (h : BookAt L base w g N cs D) (hD : D 96 = []) (hE : D 98 = []) : Calls Tryz.prog 32 #[.pointer (some ⟨g, 0, none⟩)] w fun e w' => e = .returned (.bool true) ∧ Below w.heap.size w w' := by
 obtain ⟨_, _, h0⟩ := cel h 96 112 hD; obtain ⟨_, _, h2⟩ := cel h 98 114 hE
 clear h hD hE; go_enter Tryz.func32, Tryz.ntmps32
 go_wp2
 go_loop [3] (fun i => i = .int .i64 0) (fun _ => 0)
 case atStart => exact rfl
 case round =>
  subst hrel; go_wp2
  go_loop [4] (fun i => i = .int .i64 0) (fun _ => 0)
  case atStart => exact rfl
  case round => subst hrel; go_wp2; go_ret; exact ⟨rfl, Below.refl _ _⟩
theorem markTolds_nil (h : BookAt L base w g N cs D) (hD : D 106 = []) : Calls Tryz.prog 114 #[.pointer (some ⟨g, 0, none⟩)] w fun e w' => e = .returned (.tuple #[]) ∧ w' = w := by
 obtain ⟨_, _, h2⟩ := cel h 106 123 hD; obtain ⟨_, _, _, h3⟩ := cen h 107 124; obtain ⟨_, _, _, h5⟩ := cen h 109 126; obtain ⟨_, _, _, h6⟩ := cen h 110 127
 clear h hD; go_enter Tryz.func114, Tryz.ntmps114
 go_wp2; (try simp only [Exit.inBlock, Exit.then]); refine bodyPost_ret (results_none rfl _ _ _) rfl ?_
 exact ⟨rfl, rfl⟩
theorem growTolds_nil (h : BookAt L base w g N cs D) {now bad : Bool} {turn deep : Int} {seen : Nat → Int} (hs : Sc cs now bad turn deep seen) (hD : D 108 = []) (hE : D 111 = []) : Calls Tryz.prog 135 #[.pointer (some ⟨g, 0, none⟩)] w fun e w' => e = .returned (.tuple #[]) ∧ ∃ cs', BookAt L base w' g N cs' D ∧ Sc cs' now bad turn deep seen ∧ Only Bl L w L w' ∧ Same3 w w' := by
 obtain ⟨_, _, h4⟩ := cel h 108 125 hD; obtain ⟨_, _, h7⟩ := cel h 111 128 hE
 have f4 := blk_frozen h.blk 125; have f7 := blk_frozen h.blk 128; have H := am (two0 h hs 108 111 hD hE)
 clear h hs hD hE; go_enter Tryz.func135, Tryz.ntmps135
 go_wp2
 go_loop [2] (fun i => i = .int .i64 0) (fun _ => 0)
 case atStart => exact rfl
 case round =>
  subst hrel; go_wp2
  go_end0
  exact ⟨rfl, H.out⟩
theorem holdTolds_nil (h : BookAt L base w g N cs D) (hD : D 104 = []) (hE : D 106 = []) : Calls Tryz.prog 33 #[.pointer (some ⟨g, 0, none⟩)] w fun e w' => e = .returned (.bool true) ∧ Below w.heap.size w w' := by
 obtain ⟨_, _, h0⟩ := cel h 104 121 hD; obtain ⟨_, _, h2⟩ := cel h 106 123 hE
 clear h hD hE; go_enter Tryz.func33, Tryz.ntmps33
 go_wp2
 go_loop [3] (fun i => i = .int .i64 0) (fun _ => 0)
 case atStart => exact rfl
 case round =>
  subst hrel; go_wp2
  go_loop [4] (fun i => i = .int .i64 0) (fun _ => 0)
  case atStart => exact rfl
  case round => subst hrel; go_wp2; go_ret; exact ⟨rfl, Below.refl _ _⟩
theorem markSessions_nil (h : BookAt L base w g N cs D) (hD : D 114 = []) : Calls Tryz.prog 115 #[.pointer (some ⟨g, 0, none⟩)] w fun e w' => e = .returned (.tuple #[]) ∧ w' = w := by
 obtain ⟨_, _, h2⟩ := cel h 114 132 hD; obtain ⟨_, _, _, h3⟩ := cen h 115 133; obtain ⟨_, _, _, h5⟩ := cen h 117 135; obtain ⟨_, _, _, h6⟩ := cen h 118 136
 clear h hD; go_enter Tryz.func115, Tryz.ntmps115
 go_wp2; (try simp only [Exit.inBlock, Exit.then]); refine bodyPost_ret (results_none rfl _ _ _) rfl ?_
 exact ⟨rfl, rfl⟩
theorem growSessions_nil (h : BookAt L base w g N cs D) {now bad : Bool} {turn deep : Int} {seen : Nat → Int} (hs : Sc cs now bad turn deep seen) (hD : D 116 = []) (hE : D 119 = []) : Calls Tryz.prog 136 #[.pointer (some ⟨g, 0, none⟩)] w fun e w' => e = .returned (.tuple #[]) ∧ ∃ cs', BookAt L base w' g N cs' D ∧ Sc cs' now bad turn deep seen ∧ Only Bl L w L w' ∧ Same3 w w' := by
 obtain ⟨_, _, h4⟩ := cel h 116 134 hD; obtain ⟨_, _, h7⟩ := cel h 119 137 hE
 have f4 := blk_frozen h.blk 134; have f7 := blk_frozen h.blk 137; have H := am (two0 h hs 116 119 hD hE)
 clear h hs hD hE; go_enter Tryz.func136, Tryz.ntmps136
 go_wp2
 go_loop [2] (fun i => i = .int .i64 0) (fun _ => 0)
 case atStart => exact rfl
 case round =>
  subst hrel; go_wp2
  go_end0
  exact ⟨rfl, H.out⟩
theorem holdSessions_nil (h : BookAt L base w g N cs D) (hD : D 112 = []) (hE : D 114 = []) : Calls Tryz.prog 34 #[.pointer (some ⟨g, 0, none⟩)] w fun e w' => e = .returned (.bool true) ∧ Below w.heap.size w w' := by
 obtain ⟨_, _, h0⟩ := cel h 112 130 hD; obtain ⟨_, _, h2⟩ := cel h 114 132 hE
 clear h hD hE; go_enter Tryz.func34, Tryz.ntmps34
 go_wp2
 go_loop [3] (fun i => i = .int .i64 0) (fun _ => 0)
 case atStart => exact rfl
 case round =>
  subst hrel; go_wp2
  go_loop [4] (fun i => i = .int .i64 0) (fun _ => 0)
  case atStart => exact rfl
  case round => subst hrel; go_wp2; go_ret; exact ⟨rfl, Below.refl _ _⟩
theorem markShapes_nil (h : BookAt L base w g N cs D) (hD : D 122 = []) : Calls Tryz.prog 116 #[.pointer (some ⟨g, 0, none⟩)] w fun e w' => e = .returned (.tuple #[]) ∧ w' = w := by
 obtain ⟨_, _, h2⟩ := cel h 122 141 hD; obtain ⟨_, _, _, h3⟩ := cen h 123 142; obtain ⟨_, _, _, h5⟩ := cen h 125 144; obtain ⟨_, _, _, h6⟩ := cen h 126 145
 clear h hD; go_enter Tryz.func116, Tryz.ntmps116
 go_wp2; (try simp only [Exit.inBlock, Exit.then]); refine bodyPost_ret (results_none rfl _ _ _) rfl ?_
 exact ⟨rfl, rfl⟩
theorem growShapes_nil (h : BookAt L base w g N cs D) {now bad : Bool} {turn deep : Int} {seen : Nat → Int} (hs : Sc cs now bad turn deep seen) (hD : D 124 = []) (hE : D 127 = []) : Calls Tryz.prog 137 #[.pointer (some ⟨g, 0, none⟩)] w fun e w' => e = .returned (.tuple #[]) ∧ ∃ cs', BookAt L base w' g N cs' D ∧ Sc cs' now bad turn deep seen ∧ Only Bl L w L w' ∧ Same3 w w' := by
 obtain ⟨_, _, h4⟩ := cel h 124 143 hD; obtain ⟨_, _, h7⟩ := cel h 127 146 hE
 have f4 := blk_frozen h.blk 143; have f7 := blk_frozen h.blk 146; have H := am (two0 h hs 124 127 hD hE)
 clear h hs hD hE; go_enter Tryz.func137, Tryz.ntmps137
 go_wp2
 go_loop [2] (fun i => i = .int .i64 0) (fun _ => 0)
 case atStart => exact rfl
 case round =>
  subst hrel; go_wp2
  go_end0
  exact ⟨rfl, H.out⟩
theorem holdShapes_nil (h : BookAt L base w g N cs D) (hD : D 120 = []) (hE : D 122 = []) : Calls Tryz.prog 35 #[.pointer (some ⟨g, 0, none⟩)] w fun e w' => e = .returned (.bool true) ∧ Below w.heap.size w w' := by
 obtain ⟨_, _, h0⟩ := cel h 120 139 hD; obtain ⟨_, _, h2⟩ := cel h 122 141 hE
 clear h hD hE; go_enter Tryz.func35, Tryz.ntmps35
 go_wp2
 go_loop [3] (fun i => i = .int .i64 0) (fun _ => 0)
 case atStart => exact rfl
 case round =>
  subst hrel; go_wp2
  go_loop [4] (fun i => i = .int .i64 0) (fun _ => 0)
  case atStart => exact rfl
  case round => subst hrel; go_wp2; go_ret; exact ⟨rfl, Below.refl _ _⟩
theorem markServeds_nil (h : BookAt L base w g N cs D) (hD : D 130 = []) : Calls Tryz.prog 117 #[.pointer (some ⟨g, 0, none⟩)] w fun e w' => e = .returned (.tuple #[]) ∧ w' = w := by
 obtain ⟨_, _, h2⟩ := cel h 130 150 hD; obtain ⟨_, _, _, h3⟩ := cen h 131 151; obtain ⟨_, _, _, h5⟩ := cen h 133 153; obtain ⟨_, _, _, h6⟩ := cen h 134 154
 clear h hD; go_enter Tryz.func117, Tryz.ntmps117
 go_wp2; (try simp only [Exit.inBlock, Exit.then]); refine bodyPost_ret (results_none rfl _ _ _) rfl ?_
 exact ⟨rfl, rfl⟩
theorem growServeds_nil (h : BookAt L base w g N cs D) {now bad : Bool} {turn deep : Int} {seen : Nat → Int} (hs : Sc cs now bad turn deep seen) (hD : D 132 = []) (hE : D 135 = []) : Calls Tryz.prog 138 #[.pointer (some ⟨g, 0, none⟩)] w fun e w' => e = .returned (.tuple #[]) ∧ ∃ cs', BookAt L base w' g N cs' D ∧ Sc cs' now bad turn deep seen ∧ Only Bl L w L w' ∧ Same3 w w' := by
 obtain ⟨_, _, h4⟩ := cel h 132 152 hD; obtain ⟨_, _, h7⟩ := cel h 135 155 hE
 have f4 := blk_frozen h.blk 152; have f7 := blk_frozen h.blk 155; have H := am (two0 h hs 132 135 hD hE)
 clear h hs hD hE; go_enter Tryz.func138, Tryz.ntmps138
 go_wp2
 go_loop [2] (fun i => i = .int .i64 0) (fun _ => 0)
 case atStart => exact rfl
 case round =>
  subst hrel; go_wp2
  go_end0
  exact ⟨rfl, H.out⟩
theorem holdServeds_nil (h : BookAt L base w g N cs D) (hD : D 128 = []) (hE : D 130 = []) : Calls Tryz.prog 36 #[.pointer (some ⟨g, 0, none⟩)] w fun e w' => e = .returned (.bool true) ∧ Below w.heap.size w w' := by
 obtain ⟨_, _, h0⟩ := cel h 128 148 hD; obtain ⟨_, _, h2⟩ := cel h 130 150 hE
 clear h hD hE; go_enter Tryz.func36, Tryz.ntmps36
 go_wp2
 go_loop [3] (fun i => i = .int .i64 0) (fun _ => 0)
 case atStart => exact rfl
 case round =>
  subst hrel; go_wp2
  go_loop [4] (fun i => i = .int .i64 0) (fun _ => 0)
  case atStart => exact rfl
  case round => subst hrel; go_wp2; go_ret; exact ⟨rfl, Below.refl _ _⟩
theorem markRules_nil (h : BookAt L base w g N cs D) (hD : D 138 = []) : Calls Tryz.prog 118 #[.pointer (some ⟨g, 0, none⟩)] w fun e w' => e = .returned (.tuple #[]) ∧ w' = w := by
 obtain ⟨_, _, h2⟩ := cel h 138 159 hD; obtain ⟨_, _, _, h3⟩ := cen h 139 160; obtain ⟨_, _, _, h5⟩ := cen h 141 162; obtain ⟨_, _, _, h6⟩ := cen h 142 163
 clear h hD; go_enter Tryz.func118, Tryz.ntmps118
 go_wp2; (try simp only [Exit.inBlock, Exit.then]); refine bodyPost_ret (results_none rfl _ _ _) rfl ?_
 exact ⟨rfl, rfl⟩
theorem growRules_nil (h : BookAt L base w g N cs D) {now bad : Bool} {turn deep : Int} {seen : Nat → Int} (hs : Sc cs now bad turn deep seen) (hD : D 140 = []) (hE : D 143 = []) : Calls Tryz.prog 139 #[.pointer (some ⟨g, 0, none⟩)] w fun e w' => e = .returned (.tuple #[]) ∧ ∃ cs', BookAt L base w' g N cs' D ∧ Sc cs' now bad turn deep seen ∧ Only Bl L w L w' ∧ Same3 w w' := by
 obtain ⟨_, _, h4⟩ := cel h 140 161 hD; obtain ⟨_, _, h7⟩ := cel h 143 164 hE
 have f4 := blk_frozen h.blk 161; have f7 := blk_frozen h.blk 164; have H := am (two0 h hs 140 143 hD hE)
 clear h hs hD hE; go_enter Tryz.func139, Tryz.ntmps139
 go_wp2
 go_loop [2] (fun i => i = .int .i64 0) (fun _ => 0)
 case atStart => exact rfl
 case round =>
  subst hrel; go_wp2
  go_end0
  exact ⟨rfl, H.out⟩
theorem holdRules_nil (h : BookAt L base w g N cs D) (hD : D 136 = []) (hE : D 138 = []) : Calls Tryz.prog 37 #[.pointer (some ⟨g, 0, none⟩)] w fun e w' => e = .returned (.bool true) ∧ Below w.heap.size w w' := by
 obtain ⟨_, _, h0⟩ := cel h 136 157 hD; obtain ⟨_, _, h2⟩ := cel h 138 159 hE
 clear h hD hE; go_enter Tryz.func37, Tryz.ntmps37
 go_wp2
 go_loop [3] (fun i => i = .int .i64 0) (fun _ => 0)
 case atStart => exact rfl
 case round =>
  subst hrel; go_wp2
  go_loop [4] (fun i => i = .int .i64 0) (fun _ => 0)
  case atStart => exact rfl
  case round => subst hrel; go_wp2; go_ret; exact ⟨rfl, Below.refl _ _⟩
theorem markGroups_nil (h : BookAt L base w g N cs D) (hD : D 146 = []) : Calls Tryz.prog 119 #[.pointer (some ⟨g, 0, none⟩)] w fun e w' => e = .returned (.tuple #[]) ∧ w' = w := by
 obtain ⟨_, _, h2⟩ := cel h 146 168 hD; obtain ⟨_, _, _, h3⟩ := cen h 147 169; obtain ⟨_, _, _, h5⟩ := cen h 149 171; obtain ⟨_, _, _, h6⟩ := cen h 150 172
 clear h hD; go_enter Tryz.func119, Tryz.ntmps119
 go_wp2; (try simp only [Exit.inBlock, Exit.then]); refine bodyPost_ret (results_none rfl _ _ _) rfl ?_
 exact ⟨rfl, rfl⟩
theorem growGroups_nil (h : BookAt L base w g N cs D) {now bad : Bool} {turn deep : Int} {seen : Nat → Int} (hs : Sc cs now bad turn deep seen) (hD : D 148 = []) (hE : D 151 = []) : Calls Tryz.prog 140 #[.pointer (some ⟨g, 0, none⟩)] w fun e w' => e = .returned (.tuple #[]) ∧ ∃ cs', BookAt L base w' g N cs' D ∧ Sc cs' now bad turn deep seen ∧ Only Bl L w L w' ∧ Same3 w w' := by
 obtain ⟨_, _, h4⟩ := cel h 148 170 hD; obtain ⟨_, _, h7⟩ := cel h 151 173 hE
 have f4 := blk_frozen h.blk 170; have f7 := blk_frozen h.blk 173; have H := am (two0 h hs 148 151 hD hE)
 clear h hs hD hE; go_enter Tryz.func140, Tryz.ntmps140
 go_wp2
 go_loop [2] (fun i => i = .int .i64 0) (fun _ => 0)
 case atStart => exact rfl
 case round =>
  subst hrel; go_wp2
  go_end0
  exact ⟨rfl, H.out⟩
theorem holdGroups_nil (h : BookAt L base w g N cs D) (hD : D 144 = []) (hE : D 146 = []) : Calls Tryz.prog 38 #[.pointer (some ⟨g, 0, none⟩)] w fun e w' => e = .returned (.bool true) ∧ Below w.heap.size w w' := by
 obtain ⟨_, _, h0⟩ := cel h 144 166 hD; obtain ⟨_, _, h2⟩ := cel h 146 168 hE
 clear h hD hE; go_enter Tryz.func38, Tryz.ntmps38
 go_wp2
 go_loop [3] (fun i => i = .int .i64 0) (fun _ => 0)
 case atStart => exact rfl
 case round =>
  subst hrel; go_wp2
  go_loop [4] (fun i => i = .int .i64 0) (fun _ => 0)
  case atStart => exact rfl
  case round => subst hrel; go_wp2; go_ret; exact ⟨rfl, Below.refl _ _⟩
theorem markChanges_nil (h : BookAt L base w g N cs D) (hD : D 154 = []) : Calls Tryz.prog 120 #[.pointer (some ⟨g, 0, none⟩)] w fun e w' => e = .returned (.tuple #[]) ∧ w' = w := by
 obtain ⟨_, _, h2⟩ := cel h 154 177 hD; obtain ⟨_, _, _, h3⟩ := cen h 155 178; obtain ⟨_, _, _, h5⟩ := cen h 157 180; obtain ⟨_, _, _, h6⟩ := cen h 158 181
 clear h hD; go_enter Tryz.func120, Tryz.ntmps120
 go_wp2; (try simp only [Exit.inBlock, Exit.then]); refine bodyPost_ret (results_none rfl _ _ _) rfl ?_
 exact ⟨rfl, rfl⟩
theorem growChanges_nil (h : BookAt L base w g N cs D) {now bad : Bool} {turn deep : Int} {seen : Nat → Int} (hs : Sc cs now bad turn deep seen) (hD : D 156 = []) (hE : D 159 = []) : Calls Tryz.prog 141 #[.pointer (some ⟨g, 0, none⟩)] w fun e w' => e = .returned (.tuple #[]) ∧ ∃ cs', BookAt L base w' g N cs' D ∧ Sc cs' now bad turn deep seen ∧ Only Bl L w L w' ∧ Same3 w w' := by
 obtain ⟨_, _, h4⟩ := cel h 156 179 hD; obtain ⟨_, _, h7⟩ := cel h 159 182 hE
 have f4 := blk_frozen h.blk 179; have f7 := blk_frozen h.blk 182; have H := am (two0 h hs 156 159 hD hE)
 clear h hs hD hE; go_enter Tryz.func141, Tryz.ntmps141
 go_wp2
 go_loop [2] (fun i => i = .int .i64 0) (fun _ => 0)
 case atStart => exact rfl
 case round =>
  subst hrel; go_wp2
  go_end0
  exact ⟨rfl, H.out⟩
theorem holdChanges_nil (h : BookAt L base w g N cs D) (hD : D 152 = []) (hE : D 154 = []) : Calls Tryz.prog 39 #[.pointer (some ⟨g, 0, none⟩)] w fun e w' => e = .returned (.bool true) ∧ Below w.heap.size w w' := by
 obtain ⟨_, _, h0⟩ := cel h 152 175 hD; obtain ⟨_, _, h2⟩ := cel h 154 177 hE
 clear h hD hE; go_enter Tryz.func39, Tryz.ntmps39
 go_wp2
 go_loop [3] (fun i => i = .int .i64 0) (fun _ => 0)
 case atStart => exact rfl
 case round =>
  subst hrel; go_wp2
  go_loop [4] (fun i => i = .int .i64 0) (fun _ => 0)
  case atStart => exact rfl
  case round => subst hrel; go_wp2; go_ret; exact ⟨rfl, Below.refl _ _⟩
theorem markSteps_nil (h : BookAt L base w g N cs D) (hD : D 162 = []) : Calls Tryz.prog 121 #[.pointer (some ⟨g, 0, none⟩)] w fun e w' => e = .returned (.tuple #[]) ∧ w' = w := by
 obtain ⟨_, _, h2⟩ := cel h 162 186 hD; obtain ⟨_, _, _, h3⟩ := cen h 163 187; obtain ⟨_, _, _, h5⟩ := cen h 165 189; obtain ⟨_, _, _, h6⟩ := cen h 166 190
 clear h hD; go_enter Tryz.func121, Tryz.ntmps121
 go_wp2; (try simp only [Exit.inBlock, Exit.then]); refine bodyPost_ret (results_none rfl _ _ _) rfl ?_
 exact ⟨rfl, rfl⟩
theorem growSteps_nil (h : BookAt L base w g N cs D) {now bad : Bool} {turn deep : Int} {seen : Nat → Int} (hs : Sc cs now bad turn deep seen) (hD : D 164 = []) (hE : D 167 = []) : Calls Tryz.prog 142 #[.pointer (some ⟨g, 0, none⟩)] w fun e w' => e = .returned (.tuple #[]) ∧ ∃ cs', BookAt L base w' g N cs' D ∧ Sc cs' now bad turn deep seen ∧ Only Bl L w L w' ∧ Same3 w w' := by
 obtain ⟨_, _, h4⟩ := cel h 164 188 hD; obtain ⟨_, _, h7⟩ := cel h 167 191 hE
 have f4 := blk_frozen h.blk 188; have f7 := blk_frozen h.blk 191; have H := am (two0 h hs 164 167 hD hE)
 clear h hs hD hE; go_enter Tryz.func142, Tryz.ntmps142
 go_wp2
 go_loop [2] (fun i => i = .int .i64 0) (fun _ => 0)
 case atStart => exact rfl
 case round =>
  subst hrel; go_wp2
  go_end0
  exact ⟨rfl, H.out⟩
theorem holdSteps_nil (h : BookAt L base w g N cs D) (hD : D 160 = []) (hE : D 162 = []) : Calls Tryz.prog 40 #[.pointer (some ⟨g, 0, none⟩)] w fun e w' => e = .returned (.bool true) ∧ Below w.heap.size w w' := by
 obtain ⟨_, _, h0⟩ := cel h 160 184 hD; obtain ⟨_, _, h2⟩ := cel h 162 186 hE
 clear h hD hE; go_enter Tryz.func40, Tryz.ntmps40
 go_wp2
 go_loop [3] (fun i => i = .int .i64 0) (fun _ => 0)
 case atStart => exact rfl
 case round =>
  subst hrel; go_wp2
  go_loop [4] (fun i => i = .int .i64 0) (fun _ => 0)
  case atStart => exact rfl
  case round => subst hrel; go_wp2; go_ret; exact ⟨rfl, Below.refl _ _⟩
end
end Go.Proofs.YtfomjbbebgajcaaGreatDoor.Rm
