-- Printed by a program of this session's own (wip/mkprint.py): contracts of the functions that a law uses. Not trusted: Lean checks it.
import Derived.Test.YtndhkgfeknkfdaaGreatDoorMPacketChecksx0
namespace Go.Proofs.YtndhkgfeknkfdaaGreatDoor.MPacketChecks
open Go.RowKit Go.Proofs.YtndhkgfeknkfdaaGreatDoor.Giv Go.Proofs.YtndhkgfeknkfdaaGreatDoorW.PrintWords Go.Proofs.YtndhkgfeknkfdaaGreatDoorW.PrintLast Go.Proofs.YtndhkgfeknkfdaaGreatDoorW.PrintMore
attribute [local go_sem] max2_int min2_int max_two min_two max_three min_three max_four min_four   -- for this text's walks alone
set_option linter.unusedVariables false
set_option linter.unusedSimpArgs false

/-- A state of type 91 at block g of W; what its slices lead to came in by w0. -/
def IsS91 (w0 W : World) (g : Nat) (f0 : Int) : Prop := W.heap[g]? = some (.cells #[.int .i64 f0] 91 (0, 0)) ∧ w0.heap.size ≤ g
theorem IsS91.grown {w0 W : World} {g : Nat} {f0 : Int} {W1 : World} {row : Option Nat} (h : IsS91 w0 W g f0) (hw : W.grownBy W1 row) (hne : some g ≠ row) : IsS91 w0 W1 g f0 := by
 obtain ⟨hb, hg⟩ := h
 exact ⟨blk_grown hb hw hne, hg⟩
theorem IsS91.below {w0 W : World} {g : Nat} {f0 : Int} {W1 : World} (h : IsS91 w0 W g f0) (hw : Below W.heap.size W W1) : IsS91 w0 W1 g f0 := h.grown (grown_of_below hw none) (by simp)
theorem IsS91.alloc {w0 W : World} {g : Nat} {f0 : Int} (h : IsS91 w0 W g f0) (o : Obj) : IsS91 w0 (W.alloc o) g f0 := h.below (below_alloc (Below.refl _ _) o)
theorem IsS91.drewN {w0 W : World} {g : Nat} {f0 : Int} (h : IsS91 w0 W g f0) (m : Nat) : IsS91 w0 (W.drewN m) g f0 := h
theorem IsS91.drew {w0 W : World} {g : Nat} {f0 : Int} (h : IsS91 w0 W g f0) : IsS91 w0 W.drew g f0 := h
theorem IsS91.at_ {w0 W : World} {g : Nat} {f0 : Int} {w' : World} {m : Nat} (hq : W.drewN m = w') (h : IsS91 w0 W g f0) : IsS91 w0 w' g f0 := by subst hq; exact IsS91.drewN h m
theorem IsS91.apart {w0 W : World} {g : Nat} {f0 : Int} {α : Type} {d : Kd α} {e : Nat} {base : Nat} {ok : Nat → Prop} {v : Value} {xs : List α} (h : IsS91 w0 W g f0) (ho : d.R e W base ok v xs) (ht : ∀ q, q ∈ e :: d.E → q ≠ 91) : d.R e W base (fun k => ok k ∧ k ≠ g) v xs := by
 obtain ⟨hb, hg⟩ := h
 exact Kd.R_types ho hb ht
theorem IsS91.own_ne {w0 W : World} {g : Nat} {f0 : Int} {α : Type} {d : Kd α} {e : Nat} {base : Nat} {ok : Nat → Prop} {v : Value} {xs : List α} (h : IsS91 w0 W g f0) (ho : d.R e W base ok v xs) (ht : e ≠ 91) : some g ≠ v.ownBlock := by
 obtain ⟨hb, hg⟩ := h
 exact Kd.R_ne ho hb ht
theorem IsS91.lt {w0 W : World} {g : Nat} {f0 : Int} (h : IsS91 w0 W g f0) : g < W.heap.size := by
 obtain ⟨hb, hg⟩ := h
 exact blk_lt hb
theorem IsS91.ge {w0 W : World} {g : Nat} {f0 : Int} (h : IsS91 w0 W g f0) : w0.heap.size ≤ g := by
 obtain ⟨hb, hg⟩ := h
 exact hg
theorem IsS91.far {w0 W : World} {g : Nat} {f0 : Int} {p : Addr} (h : IsS91 w0 W g f0) (hne : g ≠ p.block) (u : Value) : IsS91 w0 (W.setCell p u) g f0 := by
 obtain ⟨hb, hg⟩ := h
 exact ⟨blk_far hb hne u, hg⟩
theorem cellS91_0 {W : World} {g : Nat} {f0 : Int} (h : W.heap[g]? = some (.cells #[.int .i64 f0] 91 (0, 0))) : W.cell? ⟨g, 0, none⟩ = some (.int .i64 f0) := (blk_cell h 0).trans rfl
theorem IsS91.set_0 {w0 W : World} {g : Nat} {f0 : Int} (h : IsS91 w0 W g f0) (x : Int) : IsS91 w0 (W.setCell ⟨g, 0, none⟩ (.int .i64 x)) g x := by
 obtain ⟨hb, hg⟩ := h
 exact ⟨by simpa using blk_set hb 0 (.int .i64 x), hg⟩
theorem IsS91.new (w0 W : World) (f0 : Int) (hB : Below w0.heap.size w0 W) : IsS91 w0 (W.alloc (.cells #[.int .i64 f0] 91)) W.heap.size f0 := ⟨by simpa using heap_alloc_new W _, hB.size⟩

/-! ### crierroom_Many: function 16 -/
def crierroom_Many.f (a0 : Int) : Option (Int) := some a0
set_option maxHeartbeats 8000000 in
set_option maxRecDepth 100000 in
theorem crierroom_Many.calls (a0 : Int) (r : Int) (w0 w : World) (hB : Below w0.heap.size w0 w) (h : crierroom_Many.f a0 = some r) :
  Calls Tryz.prog 16 #[.int .i64 a0] w fun e w' => ∃ g_ : Nat, e = .returned (.pointer (some ⟨g_, 0, none⟩)) ∧ IsS91 w0 w' g_ r ∧ Below w0.heap.size w0 w' ∧ Below w.heap.size w w' := by
 have hu91 := Tryz.underlying91
 have HBW := Aside0.mk (Below.refl w.heap.size w)
 have HW0 := Aside0.mk hB.size
 have HB := Aside0.mk hB
 clear hB
 have H : (some a0) = some r := h
 clear h
 obtain rfl := Option.some.inj H
 go_enter Tryz.func16, Tryz.ntmps16
 go_wp2_with (first | ((with_reducible refine gate_dst (N := 5) rfl ?_); refine box_event ?hg (N := 5) ?hd (cs := #[.int .i64 a0]) (t := 91) ?hr ?_; (case hd => rfl); (case hg => rfl); (case hr => first | (go_simp; done) | (go_simp; rfl)); intro gb101 hg w2 hbox hb; have n0_ := Aside0.mk (below_step HBW.out hb); have n1_ := Aside0.mk (below_step (by repeat (with_reducible first | exact HB.out | apply below_alloc | apply pw_below_drewN | apply below_drew1)) hb); have n2_ := Aside0.mk (hbox); have n3_ := Aside0.mk ((by rw [hg]; exact (below_size (by repeat (first | (with_reducible first | exact HBW.out | apply below_alloc | apply pw_below_drewN | apply below_drew1) | exact HBW.out))) : w.heap.size ≤ gb101)); have n4_ := Aside0.mk ((Nat.le_trans HW0.out (by rw [hg]; exact (below_size (by repeat (first | (with_reducible first | exact HBW.out | apply below_alloc | apply pw_below_drewN | apply below_drew1) | exact HBW.out))) : w.heap.size ≤ gb101) : w0.heap.size ≤ gb101)); clear HBW; clear HB; have HBW := n0_; have HB := n1_; have BK101 := n2_; have GW101 := n3_; have GE101 := n4_; clear n0_ n1_ n2_ n3_ n4_; clear hb hbox hg))
 go_ret
 exact ⟨_, rfl, (show IsS91 w0 _ gb101 a0 from ⟨by (with_reducible repeat (first | refine blk_drewN ?_ _ | refine blk_drew ?_ | refine blk_alloc ?_ _)); exact BK101.out, GE101.out⟩), by repeat (first | (with_reducible first | exact HB.out | apply below_alloc | apply pw_below_drewN | apply below_drew1 | refine below_set ?_ GE101.out) | exact HB.out), by repeat (first | (with_reducible first | exact HBW.out | apply below_alloc | apply pw_below_drewN | apply below_drew1 | refine below_set ?_ GW101.out) | exact HBW.out)⟩

/-! ### crierroom_Count_Ok: function 18 -/
def crierroom_Count_Ok.f (s0_0 : Int) : Option (Bool × Int) := some (decide (s0_0 ≥ 0), s0_0)
set_option maxHeartbeats 8000000 in
set_option maxRecDepth 100000 in
theorem crierroom_Count_Ok.calls (g : Nat) (s0_0 : Int) (r1 : Bool) (r2 : Int) (w0 w : World) (hI : IsS91 w0 w g s0_0) (hB : Below w0.heap.size w0 w) (h : crierroom_Count_Ok.f s0_0 = some (r1, r2)) :
  Calls Tryz.prog 18 #[.pointer (some ⟨g, 0, none⟩)] w fun e w' => e = .returned (.bool r1) ∧ IsS91 w0 w' g r2 ∧ Below w0.heap.size w0 w' ∧ KeepBut w w' g none := by
 have HI0 := Aside0.mk hI
 have HK := Aside0.mk (KeepBut.refl w g none)
 have HL := Aside0.mk hB.size
 clear hI
 have HW0 := Aside0.mk hB.size
 have HB := Aside0.mk hB
 clear hB
 have H : (some (decide (s0_0 ≥ 0), s0_0)) = some (r1, r2) := h
 clear h
 simp only [Option.some.injEq, Prod.mk.injEq] at H
 obtain ⟨rfl, rfl⟩ := H
 obtain ⟨HGz2, hgz2⟩ := HI0.out
 have hcz2_0 := cellS91_0 HGz2
 have hfz2_0 := blk_frozen HGz2 0
 clear HGz2 hgz2
 go_enter Tryz.func18, Tryz.ntmps18
 go_wp2
 go_ret
 exact ⟨by first | rfl | (simp [errW_none, errW_some] <;> rfl) | (simp [*, errW_none, errW_some] <;> rfl), by repeat (first | (with_reducible first | exact HI0.out | apply IsS91.alloc | apply IsS91.drewN | apply IsS91.drew | apply IsS91.set_0) | exact HI0.out), by repeat (first | (with_reducible first | exact HB.out | apply below_alloc | apply pw_below_drewN | apply below_drew1 | refine below_set ?_ (IsS91.ge HI0.out)) | exact HB.out), by repeat (first | (with_reducible first | exact HK.out | apply KeepBut.set_ | apply keep_drewN | apply keep_drew | apply keep_alloc) | exact HK.out)⟩

/-! ### crierroom_Count_Add: function 141 -/
def crierroom_Count_Add.f (s0_0 : Int) (a1 : Int) : Option (Bool × Int) := if s0_0 ≥ 0 then (some (decide ((wrap64 (s0_0 - a1)) ≥ 0), wrap64 (s0_0 - a1))) else (some (decide (s0_0 ≥ 0), s0_0))
set_option maxHeartbeats 8000000 in
set_option maxRecDepth 100000 in
theorem crierroom_Count_Add.calls (g : Nat) (s0_0 : Int) (a1 : Int) (r1 : Bool) (r2 : Int) (w0 w : World) (hI : IsS91 w0 w g s0_0) (hB : Below w0.heap.size w0 w) (h : crierroom_Count_Add.f s0_0 a1 = some (r1, r2)) :
  Calls Tryz.prog 141 #[.pointer (some ⟨g, 0, none⟩), .int .i64 a1] w fun e w' => e = .returned (.bool r1) ∧ IsS91 w0 w' g r2 ∧ Below w0.heap.size w0 w' ∧ KeepBut w w' g none := by
 have HI0 := Aside0.mk hI
 have HK := Aside0.mk (KeepBut.refl w g none)
 have HL := Aside0.mk hB.size
 clear hI
 have HW0 := Aside0.mk hB.size
 have HB := Aside0.mk hB
 clear hB
 have H : (if s0_0 ≥ 0 then (some (decide ((wrap64 (s0_0 - a1)) ≥ 0), wrap64 (s0_0 - a1))) else (some (decide (s0_0 ≥ 0), s0_0))) = some (r1, r2) := h
 clear h
 by_cases c3 : s0_0 ≥ 0
 ·rw [if_pos c3] at H
  have c3b0 : decide (0 ≤ s0_0) = true := decide_eq_true c3
  clear c3
  simp only [Option.some.injEq, Prod.mk.injEq] at H
  obtain ⟨rfl, rfl⟩ := H
  obtain ⟨HGz4, hgz4⟩ := HI0.out
  have hcz4_0 := cellS91_0 HGz4
  have hfz4_0 := blk_frozen HGz4 0
  clear HGz4 hgz4
  go_enter Tryz.func141, Tryz.ntmps141
  go_wp2
  go_ret
  exact ⟨by first | rfl | (simp [errW_none, errW_some] <;> rfl) | (simp [*, errW_none, errW_some] <;> rfl), by repeat (first | (with_reducible first | exact HI0.out | apply IsS91.alloc | apply IsS91.drewN | apply IsS91.drew | apply IsS91.set_0) | exact HI0.out), by repeat (first | (with_reducible first | exact HB.out | apply below_alloc | apply pw_below_drewN | apply below_drew1 | refine below_set ?_ (IsS91.ge HI0.out)) | exact HB.out), by repeat (first | (with_reducible first | exact HK.out | apply KeepBut.set_ | apply keep_drewN | apply keep_drew | apply keep_alloc) | exact HK.out)⟩
 ·rw [if_neg c3] at H
  have c3b0 : decide (0 ≤ s0_0) = false := decide_eq_false c3
  clear c3
  simp only [Option.some.injEq, Prod.mk.injEq] at H
  obtain ⟨rfl, rfl⟩ := H
  obtain ⟨HGz5, hgz5⟩ := HI0.out
  have hcz5_0 := cellS91_0 HGz5
  have hfz5_0 := blk_frozen HGz5 0
  clear HGz5 hgz5
  go_enter Tryz.func141, Tryz.ntmps141
  go_wp2
  go_ret
  exact ⟨by first | rfl | (simp [errW_none, errW_some] <;> rfl) | (simp [*, errW_none, errW_some] <;> rfl), by repeat (first | (with_reducible first | exact HI0.out | apply IsS91.alloc | apply IsS91.drewN | apply IsS91.drew | apply IsS91.set_0) | exact HI0.out), by repeat (first | (with_reducible first | exact HB.out | apply below_alloc | apply pw_below_drewN | apply below_drew1 | refine below_set ?_ (IsS91.ge HI0.out)) | exact HB.out), by repeat (first | (with_reducible first | exact HK.out | apply KeepBut.set_ | apply keep_drewN | apply keep_drew | apply keep_alloc) | exact HK.out)⟩

/-! ### crierroom_Count_Text: function 137 -/
def crierroom_Count_Text.f (s0_0 : Int) (a1 : ByteArray) : Option (Int) := (crierroom_Count_Add.f s0_0 1).bind fun bt102 => ((crierroom_Count_Add.f bt102.2 (a1.size : Int)).bind fun bt104 => (some bt104.2))
set_option maxHeartbeats 8000000 in
set_option maxRecDepth 100000 in
theorem crierroom_Count_Text.calls (g : Nat) (s0_0 : Int) (a1 : ByteArray) (r : Int) (w0 w : World) (hI : IsS91 w0 w g s0_0) (hB : Below w0.heap.size w0 w) (h : crierroom_Count_Text.f s0_0 a1 = some r) :
  Calls Tryz.prog 137 #[.pointer (some ⟨g, 0, none⟩), .string a1] w fun e w' => e = .returned (.tuple #[]) ∧ IsS91 w0 w' g r ∧ Below w0.heap.size w0 w' ∧ KeepBut w w' g none := by
 have HI0 := Aside0.mk hI
 have HK := Aside0.mk (KeepBut.refl w g none)
 have HL := Aside0.mk hB.size
 clear hI
 have HW0 := Aside0.mk hB.size
 have HB := Aside0.mk hB
 clear hB
 have H : ((crierroom_Count_Add.f s0_0 1).bind fun bt102 => ((crierroom_Count_Add.f bt102.2 (a1.size : Int)).bind fun bt104 => (some bt104.2))) = some r := h
 clear h
 replace H := Option.bind_eq_some_iff.mp H
 obtain ⟨⟨t102, t103⟩, A30, H⟩ := H
 try dsimp only at H
 have A3 := Aside0.mk A30
 clear A30
 replace H := Option.bind_eq_some_iff.mp H
 obtain ⟨⟨t104, t105⟩, A40, H⟩ := H
 try dsimp only at H
 have A4 := Aside0.mk A40
 clear A40
 obtain rfl := Option.some.inj H
 go_enter Tryz.func137, Tryz.ntmps137
 go_wp2_with (first | ((with_reducible refine gate_callee (f := 141) rfl ?_); refine goesL_ (some 5) rfl rfl Tryz.func141 (by kernel_rfl) rfl #[.pointer (some ⟨g, 0, none⟩), .int .i64 1] rfl (by (try simp only [List.map_toArray, List.map_cons, List.map_nil]); first | done | rfl | (simp only [List.length_drop, List.length_take]; rfl)) ?_; (with_reducible refine (crierroom_Count_Add.calls g s0_0 1 t102 t103 w0 _ ?side1 ?side2 A3.out).mono ?_); (case side1 => repeat (first | (with_reducible first | exact HI0.out | apply IsS91.alloc | apply IsS91.drewN | apply IsS91.drew | apply IsS91.set_0) | exact HI0.out)); (case side2 => repeat (first | (with_reducible first | exact HB.out | apply below_alloc | apply pw_below_drewN | apply below_drew1 | refine below_set ?_ (IsS91.ge HI0.out)) | exact HB.out)); rintro e w5 ⟨rfl, hi, hb, hk⟩; refine ⟨_, rfl, ?_⟩; have n0_ := Aside0.mk (KeepBut.trans (by repeat (first | (with_reducible first | exact HK.out | apply KeepBut.set_ | apply keep_drewN | apply keep_drew | apply keep_alloc) | exact HK.out)) hk (.inl rfl)); have n1_ := Aside0.mk (hb); have n2_ := Aside0.mk (hi); clear HK; clear HB; clear HI0; have HK := n0_; have HB := n1_; have HI0 := n2_; clear n0_ n1_ n2_; (try clear hb)) | ((with_reducible refine gate_callee (f := 141) rfl ?_); refine goesL_ (some 9) rfl rfl Tryz.func141 (by kernel_rfl) rfl #[.pointer (some ⟨g, 0, none⟩), .int .i64 (a1.size : Int)] rfl (by (try simp only [List.map_toArray, List.map_cons, List.map_nil]); first | done | rfl | (simp only [List.length_drop, List.length_take]; rfl)) ?_; (with_reducible refine (crierroom_Count_Add.calls g t103 (a1.size : Int) t104 t105 w0 _ ?side1 ?side2 A4.out).mono ?_); (case side1 => repeat (first | (with_reducible first | exact HI0.out | apply IsS91.alloc | apply IsS91.drewN | apply IsS91.drew | apply IsS91.set_0) | exact HI0.out)); (case side2 => repeat (first | (with_reducible first | exact HB.out | apply below_alloc | apply pw_below_drewN | apply below_drew1 | refine below_set ?_ (IsS91.ge HI0.out)) | exact HB.out)); rintro e w6 ⟨rfl, hi, hb, hk⟩; refine ⟨_, rfl, ?_⟩; have n0_ := Aside0.mk (KeepBut.trans (by repeat (first | (with_reducible first | exact HK.out | apply KeepBut.set_ | apply keep_drewN | apply keep_drew | apply keep_alloc) | exact HK.out)) hk (.inl rfl)); have n1_ := Aside0.mk (hb); have n2_ := Aside0.mk (hi); clear HK; clear HB; clear HI0; have HK := n0_; have HB := n1_; have HI0 := n2_; clear n0_ n1_ n2_; (try clear hb)))
 first | go_end0 | ((try simp only [Exit.inBlock, Exit.then]); refine bodyPost_ret (results_none rfl _ _ _) rfl ?_)
 exact ⟨by first | rfl | (simp [errW_none, errW_some] <;> rfl) | (simp [*, errW_none, errW_some] <;> rfl), by repeat (first | (with_reducible first | exact HI0.out | apply IsS91.alloc | apply IsS91.drewN | apply IsS91.drew | apply IsS91.set_0) | exact HI0.out), by repeat (first | (with_reducible first | exact HB.out | apply below_alloc | apply pw_below_drewN | apply below_drew1 | refine below_set ?_ (IsS91.ge HI0.out)) | exact HB.out), by repeat (first | (with_reducible first | exact HK.out | apply KeepBut.set_ | apply keep_drewN | apply keep_drew | apply keep_alloc) | exact HK.out)⟩

/-! ### crierroom_Count_Bytes: function 138 -/
def crierroom_Count_Bytes.f (s0_0 : Int) (l1 : List Int) : Option (Int) := (crierroom_Count_Add.f s0_0 1).bind fun bt106 => ((crierroom_Count_Add.f bt106.2 (l1.length : Int)).bind fun bt108 => (some bt108.2))
set_option maxHeartbeats 8000000 in
set_option maxRecDepth 100000 in
theorem crierroom_Count_Bytes.calls (g : Nat) (s0_0 : Int) (A1 : Option Addr) (c1 : Nat) (l1 : List Int) (r : Int) (w0 w : World) (hI : IsS91 w0 w g s0_0) (hB : Below w0.heap.size w0 w) (hr1 : Kd.C (Kd.int .u8) w A1 l1.length l1) (hc1 : l1.length ≤ c1) (hf1 : ∀ ad, A1 = some ad → 0 < l1.length → ad.block ≠ g) (h : crierroom_Count_Bytes.f s0_0 l1 = some r) :
  Calls Tryz.prog 138 #[.pointer (some ⟨g, 0, none⟩), .slice A1 l1.length c1] w fun e w' => e = .returned (.tuple #[]) ∧ IsS91 w0 w' g r ∧ Below w0.heap.size w0 w' ∧ KeepBut w w' g none := by
 have HR1 := Aside0.mk hr1
 have HC1 := Aside0.mk hc1
 clear hr1 hc1
 have HI0 := Aside0.mk hI
 have HK := Aside0.mk (KeepBut.refl w g none)
 have HL := Aside0.mk hB.size
 clear hI
 have HW0 := Aside0.mk hB.size
 have HB := Aside0.mk hB
 clear hB
 have H : ((crierroom_Count_Add.f s0_0 1).bind fun bt106 => ((crierroom_Count_Add.f bt106.2 (l1.length : Int)).bind fun bt108 => (some bt108.2))) = some r := h
 clear h
 replace H := Option.bind_eq_some_iff.mp H
 obtain ⟨⟨t106, t107⟩, A30, H⟩ := H
 try dsimp only at H
 have A3 := Aside0.mk A30
 clear A30
 replace H := Option.bind_eq_some_iff.mp H
 obtain ⟨⟨t108, t109⟩, A40, H⟩ := H
 try dsimp only at H
 have A4 := Aside0.mk A40
 clear A40
 obtain rfl := Option.some.inj H
 go_enter Tryz.func138, Tryz.ntmps138
 go_wp2_with (first | ((with_reducible refine gate_callee (f := 141) rfl ?_); refine goesL_ (some 5) rfl rfl Tryz.func141 (by kernel_rfl) rfl #[.pointer (some ⟨g, 0, none⟩), .int .i64 1] rfl (by (try simp only [List.map_toArray, List.map_cons, List.map_nil]); first | done | rfl | (simp only [List.length_drop, List.length_take]; rfl)) ?_; (with_reducible refine (crierroom_Count_Add.calls g s0_0 1 t106 t107 w0 _ ?side1 ?side2 A3.out).mono ?_); (case side1 => repeat (first | (with_reducible first | exact HI0.out | apply IsS91.alloc | apply IsS91.drewN | apply IsS91.drew | apply IsS91.set_0) | exact HI0.out)); (case side2 => repeat (first | (with_reducible first | exact HB.out | apply below_alloc | apply pw_below_drewN | apply below_drew1 | refine below_set ?_ (IsS91.ge HI0.out)) | exact HB.out)); rintro e w5 ⟨rfl, hi, hb, hk⟩; refine ⟨_, rfl, ?_⟩; have n0_ := Aside0.mk (KeepBut.trans (by repeat (first | (with_reducible first | exact HK.out | apply KeepBut.set_ | apply keep_drewN | apply keep_drew | apply keep_alloc) | exact HK.out)) hk (.inl rfl)); have n1_ := Aside0.mk (hb); have n2_ := Aside0.mk (hi); clear HK; clear HB; clear HI0; have HK := n0_; have HB := n1_; have HI0 := n2_; clear n0_ n1_ n2_; (try clear hb)) | ((with_reducible refine gate_callee (f := 141) rfl ?_); refine goesL_ (some 9) rfl rfl Tryz.func141 (by kernel_rfl) rfl #[.pointer (some ⟨g, 0, none⟩), .int .i64 (l1.length : Int)] rfl (by (try simp only [List.map_toArray, List.map_cons, List.map_nil]); first | done | rfl | (simp only [List.length_drop, List.length_take]; rfl)) ?_; (with_reducible refine (crierroom_Count_Add.calls g t107 (l1.length : Int) t108 t109 w0 _ ?side1 ?side2 A4.out).mono ?_); (case side1 => repeat (first | (with_reducible first | exact HI0.out | apply IsS91.alloc | apply IsS91.drewN | apply IsS91.drew | apply IsS91.set_0) | exact HI0.out)); (case side2 => repeat (first | (with_reducible first | exact HB.out | apply below_alloc | apply pw_below_drewN | apply below_drew1 | refine below_set ?_ (IsS91.ge HI0.out)) | exact HB.out)); rintro e w6 ⟨rfl, hi, hb, hk⟩; refine ⟨_, rfl, ?_⟩; have n0_ := Aside0.mk (KeepBut.trans (by repeat (first | (with_reducible first | exact HK.out | apply KeepBut.set_ | apply keep_drewN | apply keep_drew | apply keep_alloc) | exact HK.out)) hk (.inl rfl)); have n1_ := Aside0.mk (hb); have n2_ := Aside0.mk (hi); clear HK; clear HB; clear HI0; have HK := n0_; have HB := n1_; have HI0 := n2_; clear n0_ n1_ n2_; (try clear hb)))
 first | go_end0 | ((try simp only [Exit.inBlock, Exit.then]); refine bodyPost_ret (results_none rfl _ _ _) rfl ?_)
 exact ⟨by first | rfl | (simp [errW_none, errW_some] <;> rfl) | (simp [*, errW_none, errW_some] <;> rfl), by repeat (first | (with_reducible first | exact HI0.out | apply IsS91.alloc | apply IsS91.drewN | apply IsS91.drew | apply IsS91.set_0) | exact HI0.out), by repeat (first | (with_reducible first | exact HB.out | apply below_alloc | apply pw_below_drewN | apply below_drew1 | refine below_set ?_ (IsS91.ge HI0.out)) | exact HB.out), by repeat (first | (with_reducible first | exact HK.out | apply KeepBut.set_ | apply keep_drewN | apply keep_drew | apply keep_alloc) | exact HK.out)⟩

/-! ### crierroom_Count_Message: function 139 -/
def crierroom_Count_Message.f (s0_0 : Int) (a1_0 : ByteArray) (l1_1 : List Int) (a1_2 : Int) (a1_3 : Bool) : Option (Int) := (crierroom_Count_Text.f s0_0 a1_0).bind fun t111 => ((crierroom_Count_Bytes.f t111 l1_1).bind fun t112 => (some t112))
set_option maxHeartbeats 8000000 in
set_option maxRecDepth 100000 in
theorem crierroom_Count_Message.calls (g : Nat) (s0_0 : Int) (a1_0 : ByteArray) (A1_1 : Option Addr) (c1_1 : Nat) (l1_1 : List Int) (a1_2 : Int) (a1_3 : Bool) (r : Int) (w0 w : World) (hI : IsS91 w0 w g s0_0) (hB : Below w0.heap.size w0 w) (hr1_1 : Kd.C (Kd.int .u8) w A1_1 l1_1.length l1_1) (hc1_1 : l1_1.length ≤ c1_1) (hf1_1 : ∀ ad, A1_1 = some ad → 0 < l1_1.length → ad.block ≠ g) (h : crierroom_Count_Message.f s0_0 a1_0 l1_1 a1_2 a1_3 = some r) :
  Calls Tryz.prog 139 #[.pointer (some ⟨g, 0, none⟩), .agg #[.string a1_0, .slice A1_1 l1_1.length c1_1, .int .i64 a1_2, .bool a1_3]] w fun e w' => e = .returned (.tuple #[]) ∧ IsS91 w0 w' g r ∧ Below w0.heap.size w0 w' ∧ KeepBut w w' g none := by
 have hu24 := Tryz.underlying24
 have HR1_1 := Aside0.mk hr1_1
 have HC1_1 := Aside0.mk hc1_1
 clear hr1_1 hc1_1
 have HI0 := Aside0.mk hI
 have HK := Aside0.mk (KeepBut.refl w g none)
 have HL := Aside0.mk hB.size
 clear hI
 have HW0 := Aside0.mk hB.size
 have HB := Aside0.mk hB
 clear hB
 have H : ((crierroom_Count_Text.f s0_0 a1_0).bind fun t111 => ((crierroom_Count_Bytes.f t111 l1_1).bind fun t112 => (some t112))) = some r := h
 clear h
 replace H := Option.bind_eq_some_iff.mp H
 obtain ⟨t111, A30, H⟩ := H
 try dsimp only at H
 have A3 := Aside0.mk A30
 clear A30
 replace H := Option.bind_eq_some_iff.mp H
 obtain ⟨t112, A40, H⟩ := H
 try dsimp only at H
 have A4 := Aside0.mk A40
 clear A40
 obtain rfl := Option.some.inj H
 go_enter Tryz.func139, Tryz.ntmps139
 go_wp2_with (first | ((with_reducible refine gate_dst (N := 3) rfl ?_); refine box_event ?hg (N := 3) ?hd (cs := #[.string a1_0, .slice A1_1 l1_1.length c1_1, .int .i64 a1_2, .bool a1_3]) (t := 24) ?hr ?_; (case hd => rfl); (case hg => rfl); (case hr => first | (go_simp; done) | (go_simp; rfl)); intro gb110 hg w5 hbox hb; have n0_ := Aside0.mk (IsS91.below (by repeat (first | (with_reducible first | exact HI0.out | apply IsS91.alloc | apply IsS91.drewN | apply IsS91.drew | apply IsS91.set_0) | exact HI0.out)) hb); have n1_ := Aside0.mk (KeepBut.trans (by repeat (first | (with_reducible first | exact HK.out | apply KeepBut.set_ | apply keep_drewN | apply keep_drew | apply keep_alloc) | exact HK.out)) (KeepBut.of_below hb g none) (.inl rfl)); have n2_ := Aside0.mk (below_step (by repeat (first | (with_reducible first | exact HB.out | apply below_alloc | apply pw_below_drewN | apply below_drew1 | refine below_set ?_ (IsS91.ge HI0.out)) | exact HB.out)) hb); have n3_ := Aside0.mk (hbox); have n4_ := Aside0.mk ((by rw [hg]; exact (keep_size (w := w) (g := g) (row := none) (by repeat (first | (with_reducible first | exact HK.out | apply KeepBut.set_ | apply keep_drewN | apply keep_drew | apply keep_alloc) | exact HK.out))) : w.heap.size ≤ gb110)); have n5_ := Aside0.mk ((Nat.le_trans HW0.out (by rw [hg]; exact (keep_size (w := w) (g := g) (row := none) (by repeat (first | (with_reducible first | exact HK.out | apply KeepBut.set_ | apply keep_drewN | apply keep_drew | apply keep_alloc) | exact HK.out))) : w.heap.size ≤ gb110) : w0.heap.size ≤ gb110)); have n6_ := Aside0.mk ((by rw [hg]; exact Nat.ne_of_lt (IsS91.lt (show IsS91 w0 _ g s0_0 from by repeat (first | (with_reducible first | exact HI0.out | apply IsS91.alloc | apply IsS91.drewN | apply IsS91.drew | apply IsS91.set_0) | exact HI0.out))) : g ≠ gb110)); have n7_ := Aside0.mk ((by rw [hg]; exact Nat.ne_of_gt (IsS91.lt (show IsS91 w0 _ g s0_0 from by repeat (first | (with_reducible first | exact HI0.out | apply IsS91.alloc | apply IsS91.drewN | apply IsS91.drew | apply IsS91.set_0) | exact HI0.out))) : gb110 ≠ g)); clear HI0; clear HK; clear HB; have HI0 := n0_; have HK := n1_; have HB := n2_; have BK110 := n3_; have GW110 := n4_; have GE110 := n5_; have NB0_110 := n6_; have NB110_0 := n7_; clear n0_ n1_ n2_ n3_ n4_ n5_ n6_ n7_; clear hb hbox hg; have hnb6 := NB110_0.out; have hnc6 := NB0_110.out; have hcz7_0 : w5.cell? ⟨gb110, 0, none⟩ = some (.string a1_0) := (blk_cell BK110.out 0).trans rfl; have hcz7_1 : w5.cell? ⟨gb110, 1, none⟩ = some (.slice A1_1 l1_1.length c1_1) := (blk_cell BK110.out 1).trans rfl; have hcz7_2 : w5.cell? ⟨gb110, 2, none⟩ = some (.int .i64 a1_2) := (blk_cell BK110.out 2).trans rfl; have hcz7_3 : w5.cell? ⟨gb110, 3, none⟩ = some (.bool a1_3) := (blk_cell BK110.out 3).trans rfl; have hfz7_0 := blk_frozen BK110.out 0; have hfz7_1 := blk_frozen BK110.out 1; have hfz7_2 := blk_frozen BK110.out 2; have hfz7_3 := blk_frozen BK110.out 3) | ((with_reducible refine gate_callee (f := 137) rfl ?_); refine goesL_ (some 7) rfl rfl Tryz.func137 (by kernel_rfl) rfl #[.pointer (some ⟨g, 0, none⟩), .string a1_0] rfl (by (try simp only [List.map_toArray, List.map_cons, List.map_nil]); first | done | rfl | (simp only [List.length_drop, List.length_take]; rfl)) ?_; (with_reducible refine (crierroom_Count_Text.calls g s0_0 a1_0 t111 w0 _ ?side1 ?side2 A3.out).mono ?_); (case side1 => repeat (first | (with_reducible first | exact HI0.out | apply IsS91.alloc | apply IsS91.drewN | apply IsS91.drew | apply IsS91.set_0 | refine IsS91.far ?_ NB0_110.out _) | exact HI0.out)); (case side2 => repeat (first | (with_reducible first | exact HB.out | apply below_alloc | apply pw_below_drewN | apply below_drew1 | refine below_set ?_ (IsS91.ge HI0.out) | refine below_set ?_ GE110.out) | exact HB.out)); rintro e w8 ⟨rfl, hi, hb, hk⟩; refine ⟨_, rfl, ?_⟩; have n0_ := Aside0.mk (KeepBut.blk hk (g' := gb110) (o := .cells #[.string a1_0, .slice A1_1 l1_1.length c1_1, .int .i64 a1_2, .bool a1_3] 24 (0, 0)) (by (with_reducible repeat (first | refine blk_drewN ?_ _ | refine blk_drew ?_ | refine blk_alloc ?_ _)); exact BK110.out) NB110_0.out (by simp)); have n1_ := Aside0.mk (KeepBut.trans (by repeat (first | (with_reducible first | exact HK.out | apply KeepBut.set_ | apply keep_drewN | apply keep_drew | apply keep_alloc | refine keep_far ?_ GW110.out _) | exact HK.out)) hk (.inl rfl)); have n2_ := Aside0.mk (hb); have n3_ := Aside0.mk (hi); clear BK110; clear HK; clear HB; clear HI0; have BK110 := n0_; have HK := n1_; have HB := n2_; have HI0 := n3_; clear n0_ n1_ n2_ n3_; (try clear hb); have hcz9_0 : w8.cell? ⟨gb110, 0, none⟩ = some (.string a1_0) := (blk_cell BK110.out 0).trans rfl; have hcz9_1 : w8.cell? ⟨gb110, 1, none⟩ = some (.slice A1_1 l1_1.length c1_1) := (blk_cell BK110.out 1).trans rfl; have hcz9_2 : w8.cell? ⟨gb110, 2, none⟩ = some (.int .i64 a1_2) := (blk_cell BK110.out 2).trans rfl; have hcz9_3 : w8.cell? ⟨gb110, 3, none⟩ = some (.bool a1_3) := (blk_cell BK110.out 3).trans rfl; have hfz9_0 := blk_frozen BK110.out 0; have hfz9_1 := blk_frozen BK110.out 1; have hfz9_2 := blk_frozen BK110.out 2; have hfz9_3 := blk_frozen BK110.out 3) | ((with_reducible refine gate_callee (f := 138) rfl ?_); refine goesL_ (some 11) rfl rfl Tryz.func138 (by kernel_rfl) rfl #[.pointer (some ⟨g, 0, none⟩), .slice A1_1 l1_1.length c1_1] rfl (by (try simp only [List.map_toArray, List.map_cons, List.map_nil]); first | done | rfl | (simp only [List.length_drop, List.length_take]; rfl)) ?_; (with_reducible refine (crierroom_Count_Bytes.calls g t111 _ _ l1_1 t112 w0 _ ?side1 ?side2 ?side3 ?side4 ?side5 A4.out).mono ?_); (case side1 => repeat (first | (with_reducible first | exact HI0.out | apply IsS91.alloc | apply IsS91.drewN | apply IsS91.drew | apply IsS91.set_0 | refine IsS91.far ?_ NB0_110.out _) | exact HI0.out)); (case side2 => repeat (first | (with_reducible first | exact HB.out | apply below_alloc | apply pw_below_drewN | apply below_drew1 | refine below_set ?_ (IsS91.ge HI0.out) | refine below_set ?_ GE110.out) | exact HB.out)); (case side3 => exact Kd.C_keep 0 HR1_1.out (by repeat (first | (with_reducible first | exact HK.out | apply KeepBut.set_ | apply keep_drewN | apply keep_drew | apply keep_alloc | refine keep_far ?_ GW110.out _) | exact HK.out)) hf1_1); (case side4 => exact HC1_1.out); (case side5 => exact hf1_1); rintro e w10 ⟨rfl, hi, hb, hk⟩; refine ⟨_, rfl, ?_⟩; have n0_ := Aside0.mk (KeepBut.blk hk (g' := gb110) (o := .cells #[.string a1_0, .slice A1_1 l1_1.length c1_1, .int .i64 a1_2, .bool a1_3] 24 (0, 0)) (by (with_reducible repeat (first | refine blk_drewN ?_ _ | refine blk_drew ?_ | refine blk_alloc ?_ _)); exact BK110.out) NB110_0.out (by simp)); have n1_ := Aside0.mk (KeepBut.trans (by repeat (first | (with_reducible first | exact HK.out | apply KeepBut.set_ | apply keep_drewN | apply keep_drew | apply keep_alloc | refine keep_far ?_ GW110.out _) | exact HK.out)) hk (.inl rfl)); have n2_ := Aside0.mk (hb); have n3_ := Aside0.mk (hi); clear BK110; clear HK; clear HB; clear HI0; have BK110 := n0_; have HK := n1_; have HB := n2_; have HI0 := n3_; clear n0_ n1_ n2_ n3_; (try clear hb)))
 first | go_end0 | ((try simp only [Exit.inBlock, Exit.then]); refine bodyPost_ret (results_none rfl _ _ _) rfl ?_)
 exact ⟨by first | rfl | (simp [errW_none, errW_some] <;> rfl) | (simp [*, errW_none, errW_some] <;> rfl), by repeat (first | (with_reducible first | exact HI0.out | apply IsS91.alloc | apply IsS91.drewN | apply IsS91.drew | apply IsS91.set_0 | refine IsS91.far ?_ NB0_110.out _) | exact HI0.out), by repeat (first | (with_reducible first | exact HB.out | apply below_alloc | apply pw_below_drewN | apply below_drew1 | refine below_set ?_ (IsS91.ge HI0.out) | refine below_set ?_ GE110.out) | exact HB.out), by repeat (first | (with_reducible first | exact HK.out | apply KeepBut.set_ | apply keep_drewN | apply keep_drew | apply keep_alloc | refine keep_far ?_ GW110.out _) | exact HK.out)⟩

/-! ### crierroom_Count_Asks: function 140 -/
def crierroom_Count_Asks.l0 : Nat → List (S82) → Int → Int → Option (Int)
 | 0, _, _, _ => none
 | k + 1, x1, x4, x1000 => if x4 < (x1.length : Int) then ((crierroom_Count_Ok.f x1000).bind fun bt113 => (if bt113.1 = true then (if 0 ≤ x4 then ((crierroom_Count_Text.f bt113.2 ((rd_T82 x1 x4).f0)).bind fun t116 => (crierroom_Count_Asks.l0 k x1 (wrap64 (x4 + 1)) t116)) else (none)) else (some bt113.2))) else (some x1000)
def crierroom_Count_Asks.f (k : Nat) (s0_0 : Int) (l1 : List (S82)) : Option (Int) := crierroom_Count_Asks.l0 k l1 0 s0_0
set_option maxHeartbeats 8000000 in
set_option maxRecDepth 100000 in
theorem crierroom_Count_Asks.calls (k : Nat) (g : Nat) (s0_0 : Int) (A1 : Option Addr) (c1 : Nat) (l1 : List (S82)) (r : Int) (w0 w : World) (hI : IsS91 w0 w g s0_0) (hB : Below w0.heap.size w0 w) (hr1 : ∀ W_, KeepBut w W_ g none → Kd.C k82 W_ A1 l1.length l1) (hc1 : l1.length ≤ c1) (h : crierroom_Count_Asks.f k s0_0 l1 = some r) :
  Calls Tryz.prog 140 #[.pointer (some ⟨g, 0, none⟩), .slice A1 l1.length c1] w fun e w' => e = .returned (.tuple #[]) ∧ IsS91 w0 w' g r ∧ Below w0.heap.size w0 w' ∧ KeepBut w w' g none := by
 have HR1 := Aside0.mk hr1
 have HC1 := Aside0.mk hc1
 clear hr1 hc1
 have HI0 := Aside0.mk hI
 have HK := Aside0.mk (KeepBut.refl w g none)
 have HL := Aside0.mk hB.size
 clear hI
 have HW0 := Aside0.mk hB.size
 have HB := Aside0.mk hB
 clear hB
 have H : (crierroom_Count_Asks.l0 k l1 0 s0_0) = some r := h
 clear h
 have H' := Aside0.mk H
 clear H
 go_enter Tryz.func140, Tryz.ntmps140
 go_wp2
 go_loopg [4] k (fun kq v4 w' => ∃ (x4_1 : Int) (x1000_1 : Int), v4 = .int .i64 x4_1 ∧ Aside0 (crierroom_Count_Asks.l0 kq l1 x4_1 x1000_1 = some r) ∧ Aside0 (kq ≤ k) ∧ Aside0 (IsS91 w0 w' g x1000_1) ∧ Aside0 (KeepBut w w' g none) ∧ Aside0 (Below w0.heap.size w0 w'))
 case atStart => exact ⟨(0), (s0_0), (by first | rfl | (simp; done) | (simp [*]; done)), H', ⟨Nat.le_refl _⟩, ⟨by repeat (first | (with_reducible first | exact HI0.out | apply IsS91.alloc | apply IsS91.drewN | apply IsS91.drew | apply IsS91.set_0) | exact HI0.out)⟩, ⟨by repeat (first | (with_reducible first | exact HK.out | apply KeepBut.set_ | apply keep_drewN | apply keep_drew | apply keep_alloc) | exact HK.out)⟩, ⟨by repeat (first | (with_reducible first | exact HB.out | apply below_alloc | apply pw_below_drewN | apply below_drew1 | refine below_set ?_ (IsS91.ge HI0.out)) | exact HB.out)⟩⟩
 case round =>
  clear H'
  try clear c1
  try clear p2
  obtain ⟨x4_1, x1000_1, rfl, HA, HK1, HI0, HK, HB⟩ := hrel
  cases gk with
  | zero => exact absurd HA.out (by simp [crierroom_Count_Asks.l0])
  | succ k1 =>
   have H := HA.out
   clear HA
   simp only [crierroom_Count_Asks.l0] at H
   by_cases c3 : x4_1 < (l1.length : Int)
   ·rw [if_pos c3] at H
    have c3b0 : decide (x4_1 < (l1.length : Int)) = true := decide_eq_true c3
    clear c3
    replace H := Option.bind_eq_some_iff.mp H
    obtain ⟨⟨t113, t114⟩, A40, H⟩ := H
    try dsimp only at H
    have A4 := Aside0.mk A40
    clear A40
    by_cases c5 : t113 = true
    ·subst c5
     rw [if_pos rfl] at H
     by_cases c6 : 0 ≤ x4_1
     ·rw [if_pos c6] at H
      have c6b0 : decide (0 ≤ x4_1) = true := decide_eq_true c6
      clear c6
      replace H := Option.bind_eq_some_iff.mp H
      obtain ⟨t116, A70, H⟩ := H
      try dsimp only at H
      have A7 := Aside0.mk A70
      clear A70
      have H' := Aside0.mk H
      clear H
      go_wp2_with (first | (go_at_call 18; (with_reducible refine (crierroom_Count_Ok.calls g x1000_1 true t114 w0 _ ?side1 ?side2 A4.out).mono ?_); (case side1 => repeat (first | (with_reducible first | exact HI0.out | apply IsS91.alloc | apply IsS91.drewN | apply IsS91.drew | apply IsS91.set_0) | exact HI0.out)); (case side2 => repeat (first | (with_reducible first | exact HB.out | apply below_alloc | apply pw_below_drewN | apply below_drew1 | refine below_set ?_ (IsS91.ge HI0.out)) | exact HB.out)); rintro e w8 ⟨rfl, hi, hb, hk⟩; have n0_ := Aside0.mk (KeepBut.trans (by repeat (first | (with_reducible first | exact HK.out | apply KeepBut.set_ | apply keep_drewN | apply keep_drew | apply keep_alloc) | exact HK.out)) hk (.inl rfl)); have n1_ := Aside0.mk (hb); have n2_ := Aside0.mk (hi); clear HK; clear HB; clear HI0; have HK := n0_; have HB := n1_; have HI0 := n2_; clear n0_ n1_ n2_; (try clear hb); have p115 : 0 ≤ (x4_1 : Int) := of_decide_eq_true (by first | (with_reducible assumption) | assumption); have q115 : x4_1 < (l1.length : Int) := of_decide_eq_true (by first | (with_reducible assumption) | assumption); obtain ⟨ad115, e115, hx115_0, hx115_1⟩ := at_T82 (Kd.C_foot_now HR1.out HK.out) x4_1 p115 q115; cases e115; replace p115 := eq_true p115; replace q115 := eq_true q115) | ((with_reducible refine gate_callee (f := 137) rfl ?_); refine goesL_ (some 21) rfl rfl Tryz.func137 (by kernel_rfl) rfl #[.pointer (some ⟨g, 0, none⟩), .string ((rd_T82 l1 x4_1).f0)] rfl (by (try simp only [List.map_toArray, List.map_cons, List.map_nil]); first | done | rfl | (simp only [List.length_drop, List.length_take]; rfl)) ?_; (with_reducible refine (crierroom_Count_Text.calls g t114 ((rd_T82 l1 x4_1).f0) t116 w0 _ ?side1 ?side2 A7.out).mono ?_); (case side1 => repeat (first | (with_reducible first | exact HI0.out | apply IsS91.alloc | apply IsS91.drewN | apply IsS91.drew | apply IsS91.set_0) | exact HI0.out)); (case side2 => repeat (first | (with_reducible first | exact HB.out | apply below_alloc | apply pw_below_drewN | apply below_drew1 | refine below_set ?_ (IsS91.ge HI0.out)) | exact HB.out)); rintro e w9 ⟨rfl, hi, hb, hk⟩; refine ⟨_, rfl, ?_⟩; have n0_ := Aside0.mk (KeepBut.trans (by repeat (first | (with_reducible first | exact HK.out | apply KeepBut.set_ | apply keep_drewN | apply keep_drew | apply keep_alloc) | exact HK.out)) hk (.inl rfl)); have n1_ := Aside0.mk (hb); have n2_ := Aside0.mk (hi); clear HK; clear HB; clear HI0; have HK := n0_; have HB := n1_; have HI0 := n2_; clear n0_ n1_ n2_; (try clear hb)))
      go_roundg k1
      case measure => have := HK1.out; omega
      case rel => exact ⟨(wrap64 (x4_1 + 1)), (t116), (by first | rfl | (simp; done) | (simp [*]; done)), H', ⟨by have := HK1.out; omega⟩, ⟨by repeat (first | (with_reducible first | exact HI0.out | apply IsS91.alloc | apply IsS91.drewN | apply IsS91.drew | apply IsS91.set_0) | exact HI0.out)⟩, ⟨by repeat (first | (with_reducible first | exact HK.out | apply KeepBut.set_ | apply keep_drewN | apply keep_drew | apply keep_alloc) | exact HK.out)⟩, ⟨by repeat (first | (with_reducible first | exact HB.out | apply below_alloc | apply pw_below_drewN | apply below_drew1 | refine below_set ?_ (IsS91.ge HI0.out)) | exact HB.out)⟩⟩
     ·rw [if_neg c6] at H
      exact absurd H (by simp)
    ·replace c5 := Bool.eq_false_iff.mpr c5
     subst c5
     rw [if_neg (show ¬ (false = true) by decide)] at H
     obtain rfl := Option.some.inj H
     go_wp2_with (first | (go_at_call 18; (with_reducible refine (crierroom_Count_Ok.calls g x1000_1 false t114 w0 _ ?side1 ?side2 A4.out).mono ?_); (case side1 => repeat (first | (with_reducible first | exact HI0.out | apply IsS91.alloc | apply IsS91.drewN | apply IsS91.drew | apply IsS91.set_0) | exact HI0.out)); (case side2 => repeat (first | (with_reducible first | exact HB.out | apply below_alloc | apply pw_below_drewN | apply below_drew1 | refine below_set ?_ (IsS91.ge HI0.out)) | exact HB.out)); rintro e w10 ⟨rfl, hi, hb, hk⟩; have n0_ := Aside0.mk (KeepBut.trans (by repeat (first | (with_reducible first | exact HK.out | apply KeepBut.set_ | apply keep_drewN | apply keep_drew | apply keep_alloc) | exact HK.out)) hk (.inl rfl)); have n1_ := Aside0.mk (hb); have n2_ := Aside0.mk (hi); clear HK; clear HB; clear HI0; have HK := n0_; have HB := n1_; have HI0 := n2_; clear n0_ n1_ n2_; (try clear hb)))
     first | go_end0 | ((try simp only [Exit.inBlock, Exit.then]); refine bodyPost_ret (results_none rfl _ _ _) rfl ?_)
     exact ⟨by first | rfl | (simp [errW_none, errW_some] <;> rfl) | (simp [*, errW_none, errW_some] <;> rfl), by repeat (first | (with_reducible first | exact HI0.out | apply IsS91.alloc | apply IsS91.drewN | apply IsS91.drew | apply IsS91.set_0) | exact HI0.out), by repeat (first | (with_reducible first | exact HB.out | apply below_alloc | apply pw_below_drewN | apply below_drew1 | refine below_set ?_ (IsS91.ge HI0.out)) | exact HB.out), by repeat (first | (with_reducible first | exact HK.out | apply KeepBut.set_ | apply keep_drewN | apply keep_drew | apply keep_alloc) | exact HK.out)⟩
   ·rw [if_neg c3] at H
    have c3b0 : decide (x4_1 < (l1.length : Int)) = false := decide_eq_false c3
    clear c3
    obtain rfl := Option.some.inj H
    go_wp2
    first | go_end0 | ((try simp only [Exit.inBlock, Exit.then]); refine bodyPost_ret (results_none rfl _ _ _) rfl ?_)
    exact ⟨by first | rfl | (simp [errW_none, errW_some] <;> rfl) | (simp [*, errW_none, errW_some] <;> rfl), by repeat (first | (with_reducible first | exact HI0.out | apply IsS91.alloc | apply IsS91.drewN | apply IsS91.drew | apply IsS91.set_0) | exact HI0.out), by repeat (first | (with_reducible first | exact HB.out | apply below_alloc | apply pw_below_drewN | apply below_drew1 | refine below_set ?_ (IsS91.ge HI0.out)) | exact HB.out), by repeat (first | (with_reducible first | exact HK.out | apply KeepBut.set_ | apply keep_drewN | apply keep_drew | apply keep_alloc) | exact HK.out)⟩

/-! ### crierroom_Count_Texts: function 142 -/
def crierroom_Count_Texts.l0 : Nat → List ByteArray → Int → Int → Option (Int)
 | 0, _, _, _ => none
 | k + 1, x1, x4, x1000 => if x4 < (x1.length : Int) then ((crierroom_Count_Ok.f x1000).bind fun bt117 => (if bt117.1 = true then (if 0 ≤ x4 then ((crierroom_Count_Text.f bt117.2 (rdOf ByteArray.empty x1 x4)).bind fun t120 => (crierroom_Count_Texts.l0 k x1 (wrap64 (x4 + 1)) t120)) else (none)) else (some bt117.2))) else (some x1000)
def crierroom_Count_Texts.f (k : Nat) (s0_0 : Int) (l1 : List ByteArray) : Option (Int) := crierroom_Count_Texts.l0 k l1 0 s0_0
set_option maxHeartbeats 8000000 in
set_option maxRecDepth 100000 in
theorem crierroom_Count_Texts.calls (k : Nat) (g : Nat) (s0_0 : Int) (A1 : Option Addr) (c1 : Nat) (l1 : List ByteArray) (r : Int) (w0 w : World) (hI : IsS91 w0 w g s0_0) (hB : Below w0.heap.size w0 w) (hr1 : Kd.C Kd.string w A1 l1.length l1) (hc1 : l1.length ≤ c1) (hf1 : ∀ ad, A1 = some ad → 0 < l1.length → ad.block ≠ g) (h : crierroom_Count_Texts.f k s0_0 l1 = some r) :
  Calls Tryz.prog 142 #[.pointer (some ⟨g, 0, none⟩), .slice A1 l1.length c1] w fun e w' => e = .returned (.tuple #[]) ∧ IsS91 w0 w' g r ∧ Below w0.heap.size w0 w' ∧ KeepBut w w' g none := by
 have HR1 := Aside0.mk hr1
 have HC1 := Aside0.mk hc1
 clear hr1 hc1
 have HI0 := Aside0.mk hI
 have HK := Aside0.mk (KeepBut.refl w g none)
 have HL := Aside0.mk hB.size
 clear hI
 have HW0 := Aside0.mk hB.size
 have HB := Aside0.mk hB
 clear hB
 have H : (crierroom_Count_Texts.l0 k l1 0 s0_0) = some r := h
 clear h
 have H' := Aside0.mk H
 clear H
 go_enter Tryz.func142, Tryz.ntmps142
 go_wp2
 go_loopg [4] k (fun kq v4 w' => ∃ (x4_1 : Int) (x1000_1 : Int), v4 = .int .i64 x4_1 ∧ Aside0 (crierroom_Count_Texts.l0 kq l1 x4_1 x1000_1 = some r) ∧ Aside0 (kq ≤ k) ∧ Aside0 (IsS91 w0 w' g x1000_1) ∧ Aside0 (KeepBut w w' g none) ∧ Aside0 (Below w0.heap.size w0 w'))
 case atStart => exact ⟨(0), (s0_0), (by first | rfl | (simp; done) | (simp [*]; done)), H', ⟨Nat.le_refl _⟩, ⟨by repeat (first | (with_reducible first | exact HI0.out | apply IsS91.alloc | apply IsS91.drewN | apply IsS91.drew | apply IsS91.set_0) | exact HI0.out)⟩, ⟨by repeat (first | (with_reducible first | exact HK.out | apply KeepBut.set_ | apply keep_drewN | apply keep_drew | apply keep_alloc) | exact HK.out)⟩, ⟨by repeat (first | (with_reducible first | exact HB.out | apply below_alloc | apply pw_below_drewN | apply below_drew1 | refine below_set ?_ (IsS91.ge HI0.out)) | exact HB.out)⟩⟩
 case round =>
  clear H'
  try clear c1
  try clear p2
  obtain ⟨x4_1, x1000_1, rfl, HA, HK1, HI0, HK, HB⟩ := hrel
  cases gk with
  | zero => exact absurd HA.out (by simp [crierroom_Count_Texts.l0])
  | succ k1 =>
   have H := HA.out
   clear HA
   simp only [crierroom_Count_Texts.l0] at H
   by_cases c3 : x4_1 < (l1.length : Int)
   ·rw [if_pos c3] at H
    have c3b0 : decide (x4_1 < (l1.length : Int)) = true := decide_eq_true c3
    clear c3
    replace H := Option.bind_eq_some_iff.mp H
    obtain ⟨⟨t117, t118⟩, A40, H⟩ := H
    try dsimp only at H
    have A4 := Aside0.mk A40
    clear A40
    by_cases c5 : t117 = true
    ·subst c5
     rw [if_pos rfl] at H
     by_cases c6 : 0 ≤ x4_1
     ·rw [if_pos c6] at H
      have c6b0 : decide (0 ≤ x4_1) = true := decide_eq_true c6
      clear c6
      replace H := Option.bind_eq_some_iff.mp H
      obtain ⟨t120, A70, H⟩ := H
      try dsimp only at H
      have A7 := Aside0.mk A70
      clear A70
      have H' := Aside0.mk H
      clear H
      go_wp2_with (first | (go_at_call 18; (with_reducible refine (crierroom_Count_Ok.calls g x1000_1 true t118 w0 _ ?side1 ?side2 A4.out).mono ?_); (case side1 => repeat (first | (with_reducible first | exact HI0.out | apply IsS91.alloc | apply IsS91.drewN | apply IsS91.drew | apply IsS91.set_0) | exact HI0.out)); (case side2 => repeat (first | (with_reducible first | exact HB.out | apply below_alloc | apply pw_below_drewN | apply below_drew1 | refine below_set ?_ (IsS91.ge HI0.out)) | exact HB.out)); rintro e w8 ⟨rfl, hi, hb, hk⟩; have n0_ := Aside0.mk (KeepBut.trans (by repeat (first | (with_reducible first | exact HK.out | apply KeepBut.set_ | apply keep_drewN | apply keep_drew | apply keep_alloc) | exact HK.out)) hk (.inl rfl)); have n1_ := Aside0.mk (hb); have n2_ := Aside0.mk (hi); clear HK; clear HB; clear HI0; have HK := n0_; have HB := n1_; have HI0 := n2_; clear n0_ n1_ n2_; (try clear hb); have p119 : 0 ≤ (x4_1 : Int) := of_decide_eq_true (by first | (with_reducible assumption) | assumption); have q119 : x4_1 < (l1.length : Int) := of_decide_eq_true (by first | (with_reducible assumption) | assumption); obtain ⟨ad119, e119, hx119_0⟩ := Kd.at_string HR1.out x4_1 p119 q119; cases e119; replace hx119_0 := keep_cell HK.out hx119_0 (by first | (rw [add_block]; exact hf1 _ rfl (by omega)) | exact hf1 _ rfl (by omega) | exact hf1 ad119 rfl (by omega)); replace p119 := eq_true p119; replace q119 := eq_true q119) | ((with_reducible refine gate_callee (f := 137) rfl ?_); refine goesL_ (some 20) rfl rfl Tryz.func137 (by kernel_rfl) rfl #[.pointer (some ⟨g, 0, none⟩), .string (rdOf ByteArray.empty l1 x4_1)] rfl (by (try simp only [List.map_toArray, List.map_cons, List.map_nil]); first | done | rfl | (simp only [List.length_drop, List.length_take]; rfl)) ?_; (with_reducible refine (crierroom_Count_Text.calls g t118 (rdOf ByteArray.empty l1 x4_1) t120 w0 _ ?side1 ?side2 A7.out).mono ?_); (case side1 => repeat (first | (with_reducible first | exact HI0.out | apply IsS91.alloc | apply IsS91.drewN | apply IsS91.drew | apply IsS91.set_0) | exact HI0.out)); (case side2 => repeat (first | (with_reducible first | exact HB.out | apply below_alloc | apply pw_below_drewN | apply below_drew1 | refine below_set ?_ (IsS91.ge HI0.out)) | exact HB.out)); rintro e w9 ⟨rfl, hi, hb, hk⟩; refine ⟨_, rfl, ?_⟩; have n0_ := Aside0.mk (KeepBut.trans (by repeat (first | (with_reducible first | exact HK.out | apply KeepBut.set_ | apply keep_drewN | apply keep_drew | apply keep_alloc) | exact HK.out)) hk (.inl rfl)); have n1_ := Aside0.mk (hb); have n2_ := Aside0.mk (hi); clear HK; clear HB; clear HI0; have HK := n0_; have HB := n1_; have HI0 := n2_; clear n0_ n1_ n2_; (try clear hb)))
      go_roundg k1
      case measure => have := HK1.out; omega
      case rel => exact ⟨(wrap64 (x4_1 + 1)), (t120), (by first | rfl | (simp; done) | (simp [*]; done)), H', ⟨by have := HK1.out; omega⟩, ⟨by repeat (first | (with_reducible first | exact HI0.out | apply IsS91.alloc | apply IsS91.drewN | apply IsS91.drew | apply IsS91.set_0) | exact HI0.out)⟩, ⟨by repeat (first | (with_reducible first | exact HK.out | apply KeepBut.set_ | apply keep_drewN | apply keep_drew | apply keep_alloc) | exact HK.out)⟩, ⟨by repeat (first | (with_reducible first | exact HB.out | apply below_alloc | apply pw_below_drewN | apply below_drew1 | refine below_set ?_ (IsS91.ge HI0.out)) | exact HB.out)⟩⟩
     ·rw [if_neg c6] at H
      exact absurd H (by simp)
    ·replace c5 := Bool.eq_false_iff.mpr c5
     subst c5
     rw [if_neg (show ¬ (false = true) by decide)] at H
     obtain rfl := Option.some.inj H
     go_wp2_with (first | (go_at_call 18; (with_reducible refine (crierroom_Count_Ok.calls g x1000_1 false t118 w0 _ ?side1 ?side2 A4.out).mono ?_); (case side1 => repeat (first | (with_reducible first | exact HI0.out | apply IsS91.alloc | apply IsS91.drewN | apply IsS91.drew | apply IsS91.set_0) | exact HI0.out)); (case side2 => repeat (first | (with_reducible first | exact HB.out | apply below_alloc | apply pw_below_drewN | apply below_drew1 | refine below_set ?_ (IsS91.ge HI0.out)) | exact HB.out)); rintro e w10 ⟨rfl, hi, hb, hk⟩; have n0_ := Aside0.mk (KeepBut.trans (by repeat (first | (with_reducible first | exact HK.out | apply KeepBut.set_ | apply keep_drewN | apply keep_drew | apply keep_alloc) | exact HK.out)) hk (.inl rfl)); have n1_ := Aside0.mk (hb); have n2_ := Aside0.mk (hi); clear HK; clear HB; clear HI0; have HK := n0_; have HB := n1_; have HI0 := n2_; clear n0_ n1_ n2_; (try clear hb)))
     first | go_end0 | ((try simp only [Exit.inBlock, Exit.then]); refine bodyPost_ret (results_none rfl _ _ _) rfl ?_)
     exact ⟨by first | rfl | (simp [errW_none, errW_some] <;> rfl) | (simp [*, errW_none, errW_some] <;> rfl), by repeat (first | (with_reducible first | exact HI0.out | apply IsS91.alloc | apply IsS91.drewN | apply IsS91.drew | apply IsS91.set_0) | exact HI0.out), by repeat (first | (with_reducible first | exact HB.out | apply below_alloc | apply pw_below_drewN | apply below_drew1 | refine below_set ?_ (IsS91.ge HI0.out)) | exact HB.out), by repeat (first | (with_reducible first | exact HK.out | apply KeepBut.set_ | apply keep_drewN | apply keep_drew | apply keep_alloc) | exact HK.out)⟩
   ·rw [if_neg c3] at H
    have c3b0 : decide (x4_1 < (l1.length : Int)) = false := decide_eq_false c3
    clear c3
    obtain rfl := Option.some.inj H
    go_wp2
    first | go_end0 | ((try simp only [Exit.inBlock, Exit.then]); refine bodyPost_ret (results_none rfl _ _ _) rfl ?_)
    exact ⟨by first | rfl | (simp [errW_none, errW_some] <;> rfl) | (simp [*, errW_none, errW_some] <;> rfl), by repeat (first | (with_reducible first | exact HI0.out | apply IsS91.alloc | apply IsS91.drewN | apply IsS91.drew | apply IsS91.set_0) | exact HI0.out), by repeat (first | (with_reducible first | exact HB.out | apply below_alloc | apply pw_below_drewN | apply below_drew1 | refine below_set ?_ (IsS91.ge HI0.out)) | exact HB.out), by repeat (first | (with_reducible first | exact HK.out | apply KeepBut.set_ | apply keep_drewN | apply keep_drew | apply keep_alloc) | exact HK.out)⟩

/-! ### crierroom_Count_Packet: function 87 -/
def crierroom_Count_Packet.f (k : Nat) (s0_0 : Int) (a1_0 : Int) (a1_1 : Int) (a1_2 : Bool) (a1_3 : Int) (a1_4 : ByteArray) (a1_5 : Bool) (a1_6 : ByteArray) (l1_7 : List Int) (a1_8 : Int) (a1_9 : Bool) (a1_10 : Bool) (a1_11 : ByteArray) (a1_12 : Bool) (l1_13 : List Int) (a1_14 : Bool) (a1_15 : Int) (a1_16 : Bool) (a1_17 : ByteArray) (l1_18 : List Int) (a1_19 : Int) (a1_20 : Bool) (a1_21 : Int) (l1_22 : List (S82)) (l1_23 : List Int) (l1_24 : List ByteArray) : Option (Int) := (crierroom_Count_Text.f s0_0 a1_4).bind fun t122 => ((crierroom_Count_Text.f t122 a1_11).bind fun t123 => ((crierroom_Count_Bytes.f t123 l1_13).bind fun t124 => ((crierroom_Count_Message.f t124 a1_6 l1_7 a1_8 a1_9).bind fun t125 => ((crierroom_Count_Message.f t125 a1_17 l1_18 a1_19 a1_20).bind fun t126 => ((crierroom_Count_Asks.f k t126 l1_22).bind fun t127 => ((crierroom_Count_Add.f t127 (l1_23.length : Int)).bind fun bt128 => ((crierroom_Count_Texts.f k bt128.2 l1_24).bind fun t130 => (some t130))))))))
set_option maxHeartbeats 8000000 in
set_option maxRecDepth 100000 in
theorem crierroom_Count_Packet.calls (k : Nat) (g : Nat) (s0_0 : Int) (a1_0 : Int) (a1_1 : Int) (a1_2 : Bool) (a1_3 : Int) (a1_4 : ByteArray) (a1_5 : Bool) (a1_6 : ByteArray) (A1_7 : Option Addr) (c1_7 : Nat) (l1_7 : List Int) (a1_8 : Int) (a1_9 : Bool) (a1_10 : Bool) (a1_11 : ByteArray) (a1_12 : Bool) (A1_13 : Option Addr) (c1_13 : Nat) (l1_13 : List Int) (a1_14 : Bool) (a1_15 : Int) (a1_16 : Bool) (a1_17 : ByteArray) (A1_18 : Option Addr) (c1_18 : Nat) (l1_18 : List Int) (a1_19 : Int) (a1_20 : Bool) (a1_21 : Int) (A1_22 : Option Addr) (c1_22 : Nat) (l1_22 : List (S82)) (A1_23 : Option Addr) (c1_23 : Nat) (l1_23 : List Int) (A1_24 : Option Addr) (c1_24 : Nat) (l1_24 : List ByteArray) (r : Int) (w0 w : World) (hI : IsS91 w0 w g s0_0) (hB : Below w0.heap.size w0 w) (hr1_7 : Kd.C (Kd.int .u8) w A1_7 l1_7.length l1_7) (hc1_7 : l1_7.length ≤ c1_7) (hf1_7 : ∀ ad, A1_7 = some ad → 0 < l1_7.length → ad.block ≠ g) (hr1_13 : Kd.C (Kd.int .u8) w A1_13 l1_13.length l1_13) (hc1_13 : l1_13.length ≤ c1_13) (hf1_13 : ∀ ad, A1_13 = some ad → 0 < l1_13.length → ad.block ≠ g) (hr1_18 : Kd.C (Kd.int .u8) w A1_18 l1_18.length l1_18) (hc1_18 : l1_18.length ≤ c1_18) (hf1_18 : ∀ ad, A1_18 = some ad → 0 < l1_18.length → ad.block ≠ g) (hr1_22 : ∀ W_, KeepBut w W_ g none → Kd.C k82 W_ A1_22 l1_22.length l1_22) (hc1_22 : l1_22.length ≤ c1_22) (hr1_23 : Kd.C (Kd.int .i64) w A1_23 l1_23.length l1_23) (hc1_23 : l1_23.length ≤ c1_23) (hf1_23 : ∀ ad, A1_23 = some ad → 0 < l1_23.length → ad.block ≠ g) (hr1_24 : Kd.C Kd.string w A1_24 l1_24.length l1_24) (hc1_24 : l1_24.length ≤ c1_24) (hf1_24 : ∀ ad, A1_24 = some ad → 0 < l1_24.length → ad.block ≠ g) (h : crierroom_Count_Packet.f k s0_0 a1_0 a1_1 a1_2 a1_3 a1_4 a1_5 a1_6 l1_7 a1_8 a1_9 a1_10 a1_11 a1_12 l1_13 a1_14 a1_15 a1_16 a1_17 l1_18 a1_19 a1_20 a1_21 l1_22 l1_23 l1_24 = some r) :
  Calls Tryz.prog 87 #[.pointer (some ⟨g, 0, none⟩), .agg #[.int .i64 a1_0, .int .i64 a1_1, .bool a1_2, .int .i64 a1_3, .string a1_4, .bool a1_5, .string a1_6, .slice A1_7 l1_7.length c1_7, .int .i64 a1_8, .bool a1_9, .bool a1_10, .string a1_11, .bool a1_12, .slice A1_13 l1_13.length c1_13, .bool a1_14, .int .i64 a1_15, .bool a1_16, .string a1_17, .slice A1_18 l1_18.length c1_18, .int .i64 a1_19, .bool a1_20, .int .i64 a1_21, .slice A1_22 l1_22.length c1_22, .slice A1_23 l1_23.length c1_23, .slice A1_24 l1_24.length c1_24]] w fun e w' => e = .returned (.tuple #[]) ∧ IsS91 w0 w' g r ∧ Below w0.heap.size w0 w' ∧ KeepBut w w' g none := by
 have hu29 := Tryz.underlying29
 have hu24 := Tryz.underlying24
 have HR1_7 := Aside0.mk hr1_7
 have HC1_7 := Aside0.mk hc1_7
 clear hr1_7 hc1_7
 have HR1_13 := Aside0.mk hr1_13
 have HC1_13 := Aside0.mk hc1_13
 clear hr1_13 hc1_13
 have HR1_18 := Aside0.mk hr1_18
 have HC1_18 := Aside0.mk hc1_18
 clear hr1_18 hc1_18
 have HR1_22 := Aside0.mk hr1_22
 have HC1_22 := Aside0.mk hc1_22
 clear hr1_22 hc1_22
 have HR1_23 := Aside0.mk hr1_23
 have HC1_23 := Aside0.mk hc1_23
 clear hr1_23 hc1_23
 have HR1_24 := Aside0.mk hr1_24
 have HC1_24 := Aside0.mk hc1_24
 clear hr1_24 hc1_24
 have HI0 := Aside0.mk hI
 have HK := Aside0.mk (KeepBut.refl w g none)
 have HL := Aside0.mk hB.size
 clear hI
 have HW0 := Aside0.mk hB.size
 have HB := Aside0.mk hB
 clear hB
 have H : ((crierroom_Count_Text.f s0_0 a1_4).bind fun t122 => ((crierroom_Count_Text.f t122 a1_11).bind fun t123 => ((crierroom_Count_Bytes.f t123 l1_13).bind fun t124 => ((crierroom_Count_Message.f t124 a1_6 l1_7 a1_8 a1_9).bind fun t125 => ((crierroom_Count_Message.f t125 a1_17 l1_18 a1_19 a1_20).bind fun t126 => ((crierroom_Count_Asks.f k t126 l1_22).bind fun t127 => ((crierroom_Count_Add.f t127 (l1_23.length : Int)).bind fun bt128 => ((crierroom_Count_Texts.f k bt128.2 l1_24).bind fun t130 => (some t130))))))))) = some r := h
 clear h
 replace H := Option.bind_eq_some_iff.mp H
 obtain ⟨t122, A30, H⟩ := H
 try dsimp only at H
 have A3 := Aside0.mk A30
 clear A30
 replace H := Option.bind_eq_some_iff.mp H
 obtain ⟨t123, A40, H⟩ := H
 try dsimp only at H
 have A4 := Aside0.mk A40
 clear A40
 replace H := Option.bind_eq_some_iff.mp H
 obtain ⟨t124, A50, H⟩ := H
 try dsimp only at H
 have A5 := Aside0.mk A50
 clear A50
 replace H := Option.bind_eq_some_iff.mp H
 obtain ⟨t125, A60, H⟩ := H
 try dsimp only at H
 have A6 := Aside0.mk A60
 clear A60
 replace H := Option.bind_eq_some_iff.mp H
 obtain ⟨t126, A70, H⟩ := H
 try dsimp only at H
 have A7 := Aside0.mk A70
 clear A70
 replace H := Option.bind_eq_some_iff.mp H
 obtain ⟨t127, A80, H⟩ := H
 try dsimp only at H
 have A8 := Aside0.mk A80
 clear A80
 replace H := Option.bind_eq_some_iff.mp H
 obtain ⟨⟨t128, t129⟩, A90, H⟩ := H
 try dsimp only at H
 have A9 := Aside0.mk A90
 clear A90
 replace H := Option.bind_eq_some_iff.mp H
 obtain ⟨t130, A100, H⟩ := H
 try dsimp only at H
 have A10 := Aside0.mk A100
 clear A100
 obtain rfl := Option.some.inj H
 go_enter Tryz.func87, Tryz.ntmps87
 go_wp2_with (first | ((with_reducible refine gate_dst (N := 3) rfl ?_); refine box_event ?hg (N := 3) ?hd (cs := #[.int .i64 a1_0, .int .i64 a1_1, .bool a1_2, .int .i64 a1_3, .string a1_4, .bool a1_5, .string a1_6, .slice A1_7 l1_7.length c1_7, .int .i64 a1_8, .bool a1_9, .bool a1_10, .string a1_11, .bool a1_12, .slice A1_13 l1_13.length c1_13, .bool a1_14, .int .i64 a1_15, .bool a1_16, .string a1_17, .slice A1_18 l1_18.length c1_18, .int .i64 a1_19, .bool a1_20, .int .i64 a1_21, .slice A1_22 l1_22.length c1_22, .slice A1_23 l1_23.length c1_23, .slice A1_24 l1_24.length c1_24]) (t := 29) ?hr ?_; (case hd => rfl); (case hg => rfl); (case hr => first | (go_simp; done) | (go_simp; rfl)); intro gb121 hg w11 hbox hb; have n0_ := Aside0.mk (IsS91.below (by repeat (first | (with_reducible first | exact HI0.out | apply IsS91.alloc | apply IsS91.drewN | apply IsS91.drew | apply IsS91.set_0) | exact HI0.out)) hb); have n1_ := Aside0.mk (KeepBut.trans (by repeat (first | (with_reducible first | exact HK.out | apply KeepBut.set_ | apply keep_drewN | apply keep_drew | apply keep_alloc) | exact HK.out)) (KeepBut.of_below hb g none) (.inl rfl)); have n2_ := Aside0.mk (below_step (by repeat (first | (with_reducible first | exact HB.out | apply below_alloc | apply pw_below_drewN | apply below_drew1 | refine below_set ?_ (IsS91.ge HI0.out)) | exact HB.out)) hb); have n3_ := Aside0.mk (hbox); have n4_ := Aside0.mk ((by rw [hg]; exact (keep_size (w := w) (g := g) (row := none) (by repeat (first | (with_reducible first | exact HK.out | apply KeepBut.set_ | apply keep_drewN | apply keep_drew | apply keep_alloc) | exact HK.out))) : w.heap.size ≤ gb121)); have n5_ := Aside0.mk ((Nat.le_trans HW0.out (by rw [hg]; exact (keep_size (w := w) (g := g) (row := none) (by repeat (first | (with_reducible first | exact HK.out | apply KeepBut.set_ | apply keep_drewN | apply keep_drew | apply keep_alloc) | exact HK.out))) : w.heap.size ≤ gb121) : w0.heap.size ≤ gb121)); have n6_ := Aside0.mk ((by rw [hg]; exact Nat.ne_of_lt (IsS91.lt (show IsS91 w0 _ g s0_0 from by repeat (first | (with_reducible first | exact HI0.out | apply IsS91.alloc | apply IsS91.drewN | apply IsS91.drew | apply IsS91.set_0) | exact HI0.out))) : g ≠ gb121)); have n7_ := Aside0.mk ((by rw [hg]; exact Nat.ne_of_gt (IsS91.lt (show IsS91 w0 _ g s0_0 from by repeat (first | (with_reducible first | exact HI0.out | apply IsS91.alloc | apply IsS91.drewN | apply IsS91.drew | apply IsS91.set_0) | exact HI0.out))) : gb121 ≠ g)); clear HI0; clear HK; clear HB; have HI0 := n0_; have HK := n1_; have HB := n2_; have BK121 := n3_; have GW121 := n4_; have GE121 := n5_; have NB0_121 := n6_; have NB121_0 := n7_; clear n0_ n1_ n2_ n3_ n4_ n5_ n6_ n7_; clear hb hbox hg; have hnb12 := NB121_0.out; have hnc12 := NB0_121.out; have hcz13_0 : w11.cell? ⟨gb121, 0, none⟩ = some (.int .i64 a1_0) := (blk_cell BK121.out 0).trans rfl; have hcz13_1 : w11.cell? ⟨gb121, 1, none⟩ = some (.int .i64 a1_1) := (blk_cell BK121.out 1).trans rfl; have hcz13_2 : w11.cell? ⟨gb121, 2, none⟩ = some (.bool a1_2) := (blk_cell BK121.out 2).trans rfl; have hcz13_3 : w11.cell? ⟨gb121, 3, none⟩ = some (.int .i64 a1_3) := (blk_cell BK121.out 3).trans rfl; have hcz13_4 : w11.cell? ⟨gb121, 4, none⟩ = some (.string a1_4) := (blk_cell BK121.out 4).trans rfl; have hcz13_5 : w11.cell? ⟨gb121, 5, none⟩ = some (.bool a1_5) := (blk_cell BK121.out 5).trans rfl; have hcz13_6 : w11.cell? ⟨gb121, 6, none⟩ = some (.string a1_6) := (blk_cell BK121.out 6).trans rfl; have hcz13_7 : w11.cell? ⟨gb121, 7, none⟩ = some (.slice A1_7 l1_7.length c1_7) := (blk_cell BK121.out 7).trans rfl; have hcz13_8 : w11.cell? ⟨gb121, 8, none⟩ = some (.int .i64 a1_8) := (blk_cell BK121.out 8).trans rfl; have hcz13_9 : w11.cell? ⟨gb121, 9, none⟩ = some (.bool a1_9) := (blk_cell BK121.out 9).trans rfl; have hcz13_10 : w11.cell? ⟨gb121, 10, none⟩ = some (.bool a1_10) := (blk_cell BK121.out 10).trans rfl; have hcz13_11 : w11.cell? ⟨gb121, 11, none⟩ = some (.string a1_11) := (blk_cell BK121.out 11).trans rfl; have hcz13_12 : w11.cell? ⟨gb121, 12, none⟩ = some (.bool a1_12) := (blk_cell BK121.out 12).trans rfl; have hcz13_13 : w11.cell? ⟨gb121, 13, none⟩ = some (.slice A1_13 l1_13.length c1_13) := (blk_cell BK121.out 13).trans rfl; have hcz13_14 : w11.cell? ⟨gb121, 14, none⟩ = some (.bool a1_14) := (blk_cell BK121.out 14).trans rfl; have hcz13_15 : w11.cell? ⟨gb121, 15, none⟩ = some (.int .i64 a1_15) := (blk_cell BK121.out 15).trans rfl; have hcz13_16 : w11.cell? ⟨gb121, 16, none⟩ = some (.bool a1_16) := (blk_cell BK121.out 16).trans rfl; have hcz13_17 : w11.cell? ⟨gb121, 17, none⟩ = some (.string a1_17) := (blk_cell BK121.out 17).trans rfl; have hcz13_18 : w11.cell? ⟨gb121, 18, none⟩ = some (.slice A1_18 l1_18.length c1_18) := (blk_cell BK121.out 18).trans rfl; have hcz13_19 : w11.cell? ⟨gb121, 19, none⟩ = some (.int .i64 a1_19) := (blk_cell BK121.out 19).trans rfl; have hcz13_20 : w11.cell? ⟨gb121, 20, none⟩ = some (.bool a1_20) := (blk_cell BK121.out 20).trans rfl; have hcz13_21 : w11.cell? ⟨gb121, 21, none⟩ = some (.int .i64 a1_21) := (blk_cell BK121.out 21).trans rfl; have hcz13_22 : w11.cell? ⟨gb121, 22, none⟩ = some (.slice A1_22 l1_22.length c1_22) := (blk_cell BK121.out 22).trans rfl; have hcz13_23 : w11.cell? ⟨gb121, 23, none⟩ = some (.slice A1_23 l1_23.length c1_23) := (blk_cell BK121.out 23).trans rfl; have hcz13_24 : w11.cell? ⟨gb121, 24, none⟩ = some (.slice A1_24 l1_24.length c1_24) := (blk_cell BK121.out 24).trans rfl; have hfz13_0 := blk_frozen BK121.out 0; have hfz13_1 := blk_frozen BK121.out 1; have hfz13_2 := blk_frozen BK121.out 2; have hfz13_3 := blk_frozen BK121.out 3; have hfz13_4 := blk_frozen BK121.out 4; have hfz13_5 := blk_frozen BK121.out 5; have hfz13_6 := blk_frozen BK121.out 6; have hfz13_7 := blk_frozen BK121.out 7; have hfz13_8 := blk_frozen BK121.out 8; have hfz13_9 := blk_frozen BK121.out 9; have hfz13_10 := blk_frozen BK121.out 10; have hfz13_11 := blk_frozen BK121.out 11; have hfz13_12 := blk_frozen BK121.out 12; have hfz13_13 := blk_frozen BK121.out 13; have hfz13_14 := blk_frozen BK121.out 14; have hfz13_15 := blk_frozen BK121.out 15; have hfz13_16 := blk_frozen BK121.out 16; have hfz13_17 := blk_frozen BK121.out 17; have hfz13_18 := blk_frozen BK121.out 18; have hfz13_19 := blk_frozen BK121.out 19; have hfz13_20 := blk_frozen BK121.out 20; have hfz13_21 := blk_frozen BK121.out 21; have hfz13_22 := blk_frozen BK121.out 22; have hfz13_23 := blk_frozen BK121.out 23; have hfz13_24 := blk_frozen BK121.out 24) | ((with_reducible refine gate_callee (f := 137) rfl ?_); refine goesL_ (some 7) rfl rfl Tryz.func137 (by kernel_rfl) rfl #[.pointer (some ⟨g, 0, none⟩), .string a1_4] rfl (by (try simp only [List.map_toArray, List.map_cons, List.map_nil]); first | done | rfl | (simp only [List.length_drop, List.length_take]; rfl)) ?_; (with_reducible refine (crierroom_Count_Text.calls g s0_0 a1_4 t122 w0 _ ?side1 ?side2 A3.out).mono ?_); (case side1 => repeat (first | (with_reducible first | exact HI0.out | apply IsS91.alloc | apply IsS91.drewN | apply IsS91.drew | apply IsS91.set_0 | refine IsS91.far ?_ NB0_121.out _) | exact HI0.out)); (case side2 => repeat (first | (with_reducible first | exact HB.out | apply below_alloc | apply pw_below_drewN | apply below_drew1 | refine below_set ?_ (IsS91.ge HI0.out) | refine below_set ?_ GE121.out) | exact HB.out)); rintro e w14 ⟨rfl, hi, hb, hk⟩; refine ⟨_, rfl, ?_⟩; have n0_ := Aside0.mk (KeepBut.blk hk (g' := gb121) (o := .cells #[.int .i64 a1_0, .int .i64 a1_1, .bool a1_2, .int .i64 a1_3, .string a1_4, .bool a1_5, .string a1_6, .slice A1_7 l1_7.length c1_7, .int .i64 a1_8, .bool a1_9, .bool a1_10, .string a1_11, .bool a1_12, .slice A1_13 l1_13.length c1_13, .bool a1_14, .int .i64 a1_15, .bool a1_16, .string a1_17, .slice A1_18 l1_18.length c1_18, .int .i64 a1_19, .bool a1_20, .int .i64 a1_21, .slice A1_22 l1_22.length c1_22, .slice A1_23 l1_23.length c1_23, .slice A1_24 l1_24.length c1_24] 29 (0, 0)) (by (with_reducible repeat (first | refine blk_drewN ?_ _ | refine blk_drew ?_ | refine blk_alloc ?_ _)); exact BK121.out) NB121_0.out (by simp)); have n1_ := Aside0.mk (KeepBut.trans (by repeat (first | (with_reducible first | exact HK.out | apply KeepBut.set_ | apply keep_drewN | apply keep_drew | apply keep_alloc | refine keep_far ?_ GW121.out _) | exact HK.out)) hk (.inl rfl)); have n2_ := Aside0.mk (hb); have n3_ := Aside0.mk (hi); clear BK121; clear HK; clear HB; clear HI0; have BK121 := n0_; have HK := n1_; have HB := n2_; have HI0 := n3_; clear n0_ n1_ n2_ n3_; (try clear hb); have hcz15_0 : w14.cell? ⟨gb121, 0, none⟩ = some (.int .i64 a1_0) := (blk_cell BK121.out 0).trans rfl; have hcz15_1 : w14.cell? ⟨gb121, 1, none⟩ = some (.int .i64 a1_1) := (blk_cell BK121.out 1).trans rfl; have hcz15_2 : w14.cell? ⟨gb121, 2, none⟩ = some (.bool a1_2) := (blk_cell BK121.out 2).trans rfl; have hcz15_3 : w14.cell? ⟨gb121, 3, none⟩ = some (.int .i64 a1_3) := (blk_cell BK121.out 3).trans rfl; have hcz15_4 : w14.cell? ⟨gb121, 4, none⟩ = some (.string a1_4) := (blk_cell BK121.out 4).trans rfl; have hcz15_5 : w14.cell? ⟨gb121, 5, none⟩ = some (.bool a1_5) := (blk_cell BK121.out 5).trans rfl; have hcz15_6 : w14.cell? ⟨gb121, 6, none⟩ = some (.string a1_6) := (blk_cell BK121.out 6).trans rfl; have hcz15_7 : w14.cell? ⟨gb121, 7, none⟩ = some (.slice A1_7 l1_7.length c1_7) := (blk_cell BK121.out 7).trans rfl; have hcz15_8 : w14.cell? ⟨gb121, 8, none⟩ = some (.int .i64 a1_8) := (blk_cell BK121.out 8).trans rfl; have hcz15_9 : w14.cell? ⟨gb121, 9, none⟩ = some (.bool a1_9) := (blk_cell BK121.out 9).trans rfl; have hcz15_10 : w14.cell? ⟨gb121, 10, none⟩ = some (.bool a1_10) := (blk_cell BK121.out 10).trans rfl; have hcz15_11 : w14.cell? ⟨gb121, 11, none⟩ = some (.string a1_11) := (blk_cell BK121.out 11).trans rfl; have hcz15_12 : w14.cell? ⟨gb121, 12, none⟩ = some (.bool a1_12) := (blk_cell BK121.out 12).trans rfl; have hcz15_13 : w14.cell? ⟨gb121, 13, none⟩ = some (.slice A1_13 l1_13.length c1_13) := (blk_cell BK121.out 13).trans rfl; have hcz15_14 : w14.cell? ⟨gb121, 14, none⟩ = some (.bool a1_14) := (blk_cell BK121.out 14).trans rfl; have hcz15_15 : w14.cell? ⟨gb121, 15, none⟩ = some (.int .i64 a1_15) := (blk_cell BK121.out 15).trans rfl; have hcz15_16 : w14.cell? ⟨gb121, 16, none⟩ = some (.bool a1_16) := (blk_cell BK121.out 16).trans rfl; have hcz15_17 : w14.cell? ⟨gb121, 17, none⟩ = some (.string a1_17) := (blk_cell BK121.out 17).trans rfl; have hcz15_18 : w14.cell? ⟨gb121, 18, none⟩ = some (.slice A1_18 l1_18.length c1_18) := (blk_cell BK121.out 18).trans rfl; have hcz15_19 : w14.cell? ⟨gb121, 19, none⟩ = some (.int .i64 a1_19) := (blk_cell BK121.out 19).trans rfl; have hcz15_20 : w14.cell? ⟨gb121, 20, none⟩ = some (.bool a1_20) := (blk_cell BK121.out 20).trans rfl; have hcz15_21 : w14.cell? ⟨gb121, 21, none⟩ = some (.int .i64 a1_21) := (blk_cell BK121.out 21).trans rfl; have hcz15_22 : w14.cell? ⟨gb121, 22, none⟩ = some (.slice A1_22 l1_22.length c1_22) := (blk_cell BK121.out 22).trans rfl; have hcz15_23 : w14.cell? ⟨gb121, 23, none⟩ = some (.slice A1_23 l1_23.length c1_23) := (blk_cell BK121.out 23).trans rfl; have hcz15_24 : w14.cell? ⟨gb121, 24, none⟩ = some (.slice A1_24 l1_24.length c1_24) := (blk_cell BK121.out 24).trans rfl; have hfz15_0 := blk_frozen BK121.out 0; have hfz15_1 := blk_frozen BK121.out 1; have hfz15_2 := blk_frozen BK121.out 2; have hfz15_3 := blk_frozen BK121.out 3; have hfz15_4 := blk_frozen BK121.out 4; have hfz15_5 := blk_frozen BK121.out 5; have hfz15_6 := blk_frozen BK121.out 6; have hfz15_7 := blk_frozen BK121.out 7; have hfz15_8 := blk_frozen BK121.out 8; have hfz15_9 := blk_frozen BK121.out 9; have hfz15_10 := blk_frozen BK121.out 10; have hfz15_11 := blk_frozen BK121.out 11; have hfz15_12 := blk_frozen BK121.out 12; have hfz15_13 := blk_frozen BK121.out 13; have hfz15_14 := blk_frozen BK121.out 14; have hfz15_15 := blk_frozen BK121.out 15; have hfz15_16 := blk_frozen BK121.out 16; have hfz15_17 := blk_frozen BK121.out 17; have hfz15_18 := blk_frozen BK121.out 18; have hfz15_19 := blk_frozen BK121.out 19; have hfz15_20 := blk_frozen BK121.out 20; have hfz15_21 := blk_frozen BK121.out 21; have hfz15_22 := blk_frozen BK121.out 22; have hfz15_23 := blk_frozen BK121.out 23; have hfz15_24 := blk_frozen BK121.out 24) | ((with_reducible refine gate_callee (f := 137) rfl ?_); refine goesL_ (some 11) rfl rfl Tryz.func137 (by kernel_rfl) rfl #[.pointer (some ⟨g, 0, none⟩), .string a1_11] rfl (by (try simp only [List.map_toArray, List.map_cons, List.map_nil]); first | done | rfl | (simp only [List.length_drop, List.length_take]; rfl)) ?_; (with_reducible refine (crierroom_Count_Text.calls g t122 a1_11 t123 w0 _ ?side1 ?side2 A4.out).mono ?_); (case side1 => repeat (first | (with_reducible first | exact HI0.out | apply IsS91.alloc | apply IsS91.drewN | apply IsS91.drew | apply IsS91.set_0 | refine IsS91.far ?_ NB0_121.out _) | exact HI0.out)); (case side2 => repeat (first | (with_reducible first | exact HB.out | apply below_alloc | apply pw_below_drewN | apply below_drew1 | refine below_set ?_ (IsS91.ge HI0.out) | refine below_set ?_ GE121.out) | exact HB.out)); rintro e w16 ⟨rfl, hi, hb, hk⟩; refine ⟨_, rfl, ?_⟩; have n0_ := Aside0.mk (KeepBut.blk hk (g' := gb121) (o := .cells #[.int .i64 a1_0, .int .i64 a1_1, .bool a1_2, .int .i64 a1_3, .string a1_4, .bool a1_5, .string a1_6, .slice A1_7 l1_7.length c1_7, .int .i64 a1_8, .bool a1_9, .bool a1_10, .string a1_11, .bool a1_12, .slice A1_13 l1_13.length c1_13, .bool a1_14, .int .i64 a1_15, .bool a1_16, .string a1_17, .slice A1_18 l1_18.length c1_18, .int .i64 a1_19, .bool a1_20, .int .i64 a1_21, .slice A1_22 l1_22.length c1_22, .slice A1_23 l1_23.length c1_23, .slice A1_24 l1_24.length c1_24] 29 (0, 0)) (by (with_reducible repeat (first | refine blk_drewN ?_ _ | refine blk_drew ?_ | refine blk_alloc ?_ _)); exact BK121.out) NB121_0.out (by simp)); have n1_ := Aside0.mk (KeepBut.trans (by repeat (first | (with_reducible first | exact HK.out | apply KeepBut.set_ | apply keep_drewN | apply keep_drew | apply keep_alloc | refine keep_far ?_ GW121.out _) | exact HK.out)) hk (.inl rfl)); have n2_ := Aside0.mk (hb); have n3_ := Aside0.mk (hi); clear BK121; clear HK; clear HB; clear HI0; have BK121 := n0_; have HK := n1_; have HB := n2_; have HI0 := n3_; clear n0_ n1_ n2_ n3_; (try clear hb); have hcz17_0 : w16.cell? ⟨gb121, 0, none⟩ = some (.int .i64 a1_0) := (blk_cell BK121.out 0).trans rfl; have hcz17_1 : w16.cell? ⟨gb121, 1, none⟩ = some (.int .i64 a1_1) := (blk_cell BK121.out 1).trans rfl; have hcz17_2 : w16.cell? ⟨gb121, 2, none⟩ = some (.bool a1_2) := (blk_cell BK121.out 2).trans rfl; have hcz17_3 : w16.cell? ⟨gb121, 3, none⟩ = some (.int .i64 a1_3) := (blk_cell BK121.out 3).trans rfl; have hcz17_4 : w16.cell? ⟨gb121, 4, none⟩ = some (.string a1_4) := (blk_cell BK121.out 4).trans rfl; have hcz17_5 : w16.cell? ⟨gb121, 5, none⟩ = some (.bool a1_5) := (blk_cell BK121.out 5).trans rfl; have hcz17_6 : w16.cell? ⟨gb121, 6, none⟩ = some (.string a1_6) := (blk_cell BK121.out 6).trans rfl; have hcz17_7 : w16.cell? ⟨gb121, 7, none⟩ = some (.slice A1_7 l1_7.length c1_7) := (blk_cell BK121.out 7).trans rfl; have hcz17_8 : w16.cell? ⟨gb121, 8, none⟩ = some (.int .i64 a1_8) := (blk_cell BK121.out 8).trans rfl; have hcz17_9 : w16.cell? ⟨gb121, 9, none⟩ = some (.bool a1_9) := (blk_cell BK121.out 9).trans rfl; have hcz17_10 : w16.cell? ⟨gb121, 10, none⟩ = some (.bool a1_10) := (blk_cell BK121.out 10).trans rfl; have hcz17_11 : w16.cell? ⟨gb121, 11, none⟩ = some (.string a1_11) := (blk_cell BK121.out 11).trans rfl; have hcz17_12 : w16.cell? ⟨gb121, 12, none⟩ = some (.bool a1_12) := (blk_cell BK121.out 12).trans rfl; have hcz17_13 : w16.cell? ⟨gb121, 13, none⟩ = some (.slice A1_13 l1_13.length c1_13) := (blk_cell BK121.out 13).trans rfl; have hcz17_14 : w16.cell? ⟨gb121, 14, none⟩ = some (.bool a1_14) := (blk_cell BK121.out 14).trans rfl; have hcz17_15 : w16.cell? ⟨gb121, 15, none⟩ = some (.int .i64 a1_15) := (blk_cell BK121.out 15).trans rfl; have hcz17_16 : w16.cell? ⟨gb121, 16, none⟩ = some (.bool a1_16) := (blk_cell BK121.out 16).trans rfl; have hcz17_17 : w16.cell? ⟨gb121, 17, none⟩ = some (.string a1_17) := (blk_cell BK121.out 17).trans rfl; have hcz17_18 : w16.cell? ⟨gb121, 18, none⟩ = some (.slice A1_18 l1_18.length c1_18) := (blk_cell BK121.out 18).trans rfl; have hcz17_19 : w16.cell? ⟨gb121, 19, none⟩ = some (.int .i64 a1_19) := (blk_cell BK121.out 19).trans rfl; have hcz17_20 : w16.cell? ⟨gb121, 20, none⟩ = some (.bool a1_20) := (blk_cell BK121.out 20).trans rfl; have hcz17_21 : w16.cell? ⟨gb121, 21, none⟩ = some (.int .i64 a1_21) := (blk_cell BK121.out 21).trans rfl; have hcz17_22 : w16.cell? ⟨gb121, 22, none⟩ = some (.slice A1_22 l1_22.length c1_22) := (blk_cell BK121.out 22).trans rfl; have hcz17_23 : w16.cell? ⟨gb121, 23, none⟩ = some (.slice A1_23 l1_23.length c1_23) := (blk_cell BK121.out 23).trans rfl; have hcz17_24 : w16.cell? ⟨gb121, 24, none⟩ = some (.slice A1_24 l1_24.length c1_24) := (blk_cell BK121.out 24).trans rfl; have hfz17_0 := blk_frozen BK121.out 0; have hfz17_1 := blk_frozen BK121.out 1; have hfz17_2 := blk_frozen BK121.out 2; have hfz17_3 := blk_frozen BK121.out 3; have hfz17_4 := blk_frozen BK121.out 4; have hfz17_5 := blk_frozen BK121.out 5; have hfz17_6 := blk_frozen BK121.out 6; have hfz17_7 := blk_frozen BK121.out 7; have hfz17_8 := blk_frozen BK121.out 8; have hfz17_9 := blk_frozen BK121.out 9; have hfz17_10 := blk_frozen BK121.out 10; have hfz17_11 := blk_frozen BK121.out 11; have hfz17_12 := blk_frozen BK121.out 12; have hfz17_13 := blk_frozen BK121.out 13; have hfz17_14 := blk_frozen BK121.out 14; have hfz17_15 := blk_frozen BK121.out 15; have hfz17_16 := blk_frozen BK121.out 16; have hfz17_17 := blk_frozen BK121.out 17; have hfz17_18 := blk_frozen BK121.out 18; have hfz17_19 := blk_frozen BK121.out 19; have hfz17_20 := blk_frozen BK121.out 20; have hfz17_21 := blk_frozen BK121.out 21; have hfz17_22 := blk_frozen BK121.out 22; have hfz17_23 := blk_frozen BK121.out 23; have hfz17_24 := blk_frozen BK121.out 24) | ((with_reducible refine gate_callee (f := 138) rfl ?_); refine goesL_ (some 15) rfl rfl Tryz.func138 (by kernel_rfl) rfl #[.pointer (some ⟨g, 0, none⟩), .slice A1_13 l1_13.length c1_13] rfl (by (try simp only [List.map_toArray, List.map_cons, List.map_nil]); first | done | rfl | (simp only [List.length_drop, List.length_take]; rfl)) ?_; (with_reducible refine (crierroom_Count_Bytes.calls g t123 _ _ l1_13 t124 w0 _ ?side1 ?side2 ?side3 ?side4 ?side5 A5.out).mono ?_); (case side1 => repeat (first | (with_reducible first | exact HI0.out | apply IsS91.alloc | apply IsS91.drewN | apply IsS91.drew | apply IsS91.set_0 | refine IsS91.far ?_ NB0_121.out _) | exact HI0.out)); (case side2 => repeat (first | (with_reducible first | exact HB.out | apply below_alloc | apply pw_below_drewN | apply below_drew1 | refine below_set ?_ (IsS91.ge HI0.out) | refine below_set ?_ GE121.out) | exact HB.out)); (case side3 => exact Kd.C_keep 0 HR1_13.out (by repeat (first | (with_reducible first | exact HK.out | apply KeepBut.set_ | apply keep_drewN | apply keep_drew | apply keep_alloc | refine keep_far ?_ GW121.out _) | exact HK.out)) hf1_13); (case side4 => exact HC1_13.out); (case side5 => exact hf1_13); rintro e w18 ⟨rfl, hi, hb, hk⟩; refine ⟨_, rfl, ?_⟩; have n0_ := Aside0.mk (KeepBut.blk hk (g' := gb121) (o := .cells #[.int .i64 a1_0, .int .i64 a1_1, .bool a1_2, .int .i64 a1_3, .string a1_4, .bool a1_5, .string a1_6, .slice A1_7 l1_7.length c1_7, .int .i64 a1_8, .bool a1_9, .bool a1_10, .string a1_11, .bool a1_12, .slice A1_13 l1_13.length c1_13, .bool a1_14, .int .i64 a1_15, .bool a1_16, .string a1_17, .slice A1_18 l1_18.length c1_18, .int .i64 a1_19, .bool a1_20, .int .i64 a1_21, .slice A1_22 l1_22.length c1_22, .slice A1_23 l1_23.length c1_23, .slice A1_24 l1_24.length c1_24] 29 (0, 0)) (by (with_reducible repeat (first | refine blk_drewN ?_ _ | refine blk_drew ?_ | refine blk_alloc ?_ _)); exact BK121.out) NB121_0.out (by simp)); have n1_ := Aside0.mk (KeepBut.trans (by repeat (first | (with_reducible first | exact HK.out | apply KeepBut.set_ | apply keep_drewN | apply keep_drew | apply keep_alloc | refine keep_far ?_ GW121.out _) | exact HK.out)) hk (.inl rfl)); have n2_ := Aside0.mk (hb); have n3_ := Aside0.mk (hi); clear BK121; clear HK; clear HB; clear HI0; have BK121 := n0_; have HK := n1_; have HB := n2_; have HI0 := n3_; clear n0_ n1_ n2_ n3_; (try clear hb); have hcz19_0 : w18.cell? ⟨gb121, 0, none⟩ = some (.int .i64 a1_0) := (blk_cell BK121.out 0).trans rfl; have hcz19_1 : w18.cell? ⟨gb121, 1, none⟩ = some (.int .i64 a1_1) := (blk_cell BK121.out 1).trans rfl; have hcz19_2 : w18.cell? ⟨gb121, 2, none⟩ = some (.bool a1_2) := (blk_cell BK121.out 2).trans rfl; have hcz19_3 : w18.cell? ⟨gb121, 3, none⟩ = some (.int .i64 a1_3) := (blk_cell BK121.out 3).trans rfl; have hcz19_4 : w18.cell? ⟨gb121, 4, none⟩ = some (.string a1_4) := (blk_cell BK121.out 4).trans rfl; have hcz19_5 : w18.cell? ⟨gb121, 5, none⟩ = some (.bool a1_5) := (blk_cell BK121.out 5).trans rfl; have hcz19_6 : w18.cell? ⟨gb121, 6, none⟩ = some (.string a1_6) := (blk_cell BK121.out 6).trans rfl; have hcz19_7 : w18.cell? ⟨gb121, 7, none⟩ = some (.slice A1_7 l1_7.length c1_7) := (blk_cell BK121.out 7).trans rfl; have hcz19_8 : w18.cell? ⟨gb121, 8, none⟩ = some (.int .i64 a1_8) := (blk_cell BK121.out 8).trans rfl; have hcz19_9 : w18.cell? ⟨gb121, 9, none⟩ = some (.bool a1_9) := (blk_cell BK121.out 9).trans rfl; have hcz19_10 : w18.cell? ⟨gb121, 10, none⟩ = some (.bool a1_10) := (blk_cell BK121.out 10).trans rfl; have hcz19_11 : w18.cell? ⟨gb121, 11, none⟩ = some (.string a1_11) := (blk_cell BK121.out 11).trans rfl; have hcz19_12 : w18.cell? ⟨gb121, 12, none⟩ = some (.bool a1_12) := (blk_cell BK121.out 12).trans rfl; have hcz19_13 : w18.cell? ⟨gb121, 13, none⟩ = some (.slice A1_13 l1_13.length c1_13) := (blk_cell BK121.out 13).trans rfl; have hcz19_14 : w18.cell? ⟨gb121, 14, none⟩ = some (.bool a1_14) := (blk_cell BK121.out 14).trans rfl; have hcz19_15 : w18.cell? ⟨gb121, 15, none⟩ = some (.int .i64 a1_15) := (blk_cell BK121.out 15).trans rfl; have hcz19_16 : w18.cell? ⟨gb121, 16, none⟩ = some (.bool a1_16) := (blk_cell BK121.out 16).trans rfl; have hcz19_17 : w18.cell? ⟨gb121, 17, none⟩ = some (.string a1_17) := (blk_cell BK121.out 17).trans rfl; have hcz19_18 : w18.cell? ⟨gb121, 18, none⟩ = some (.slice A1_18 l1_18.length c1_18) := (blk_cell BK121.out 18).trans rfl; have hcz19_19 : w18.cell? ⟨gb121, 19, none⟩ = some (.int .i64 a1_19) := (blk_cell BK121.out 19).trans rfl; have hcz19_20 : w18.cell? ⟨gb121, 20, none⟩ = some (.bool a1_20) := (blk_cell BK121.out 20).trans rfl; have hcz19_21 : w18.cell? ⟨gb121, 21, none⟩ = some (.int .i64 a1_21) := (blk_cell BK121.out 21).trans rfl; have hcz19_22 : w18.cell? ⟨gb121, 22, none⟩ = some (.slice A1_22 l1_22.length c1_22) := (blk_cell BK121.out 22).trans rfl; have hcz19_23 : w18.cell? ⟨gb121, 23, none⟩ = some (.slice A1_23 l1_23.length c1_23) := (blk_cell BK121.out 23).trans rfl; have hcz19_24 : w18.cell? ⟨gb121, 24, none⟩ = some (.slice A1_24 l1_24.length c1_24) := (blk_cell BK121.out 24).trans rfl; have hfz19_0 := blk_frozen BK121.out 0; have hfz19_1 := blk_frozen BK121.out 1; have hfz19_2 := blk_frozen BK121.out 2; have hfz19_3 := blk_frozen BK121.out 3; have hfz19_4 := blk_frozen BK121.out 4; have hfz19_5 := blk_frozen BK121.out 5; have hfz19_6 := blk_frozen BK121.out 6; have hfz19_7 := blk_frozen BK121.out 7; have hfz19_8 := blk_frozen BK121.out 8; have hfz19_9 := blk_frozen BK121.out 9; have hfz19_10 := blk_frozen BK121.out 10; have hfz19_11 := blk_frozen BK121.out 11; have hfz19_12 := blk_frozen BK121.out 12; have hfz19_13 := blk_frozen BK121.out 13; have hfz19_14 := blk_frozen BK121.out 14; have hfz19_15 := blk_frozen BK121.out 15; have hfz19_16 := blk_frozen BK121.out 16; have hfz19_17 := blk_frozen BK121.out 17; have hfz19_18 := blk_frozen BK121.out 18; have hfz19_19 := blk_frozen BK121.out 19; have hfz19_20 := blk_frozen BK121.out 20; have hfz19_21 := blk_frozen BK121.out 21; have hfz19_22 := blk_frozen BK121.out 22; have hfz19_23 := blk_frozen BK121.out 23; have hfz19_24 := blk_frozen BK121.out 24) | ((with_reducible refine gate_callee (f := 139) rfl ?_); refine goesL_ (some 19) rfl rfl Tryz.func139 (by kernel_rfl) rfl #[.pointer (some ⟨g, 0, none⟩), .agg #[.string a1_6, .slice A1_7 l1_7.length c1_7, .int .i64 a1_8, .bool a1_9]] rfl (by (try simp only [List.map_toArray, List.map_cons, List.map_nil]); first | done | rfl | (simp only [List.length_drop, List.length_take]; rfl)) ?_; (with_reducible refine (crierroom_Count_Message.calls g t124 a1_6 _ _ l1_7 a1_8 a1_9 t125 w0 _ ?side1 ?side2 ?side3 ?side4 ?side5 A6.out).mono ?_); (case side1 => repeat (first | (with_reducible first | exact HI0.out | apply IsS91.alloc | apply IsS91.drewN | apply IsS91.drew | apply IsS91.set_0 | refine IsS91.far ?_ NB0_121.out _) | exact HI0.out)); (case side2 => repeat (first | (with_reducible first | exact HB.out | apply below_alloc | apply pw_below_drewN | apply below_drew1 | refine below_set ?_ (IsS91.ge HI0.out) | refine below_set ?_ GE121.out) | exact HB.out)); (case side3 => exact Kd.C_keep 0 HR1_7.out (by repeat (first | (with_reducible first | exact HK.out | apply KeepBut.set_ | apply keep_drewN | apply keep_drew | apply keep_alloc | refine keep_far ?_ GW121.out _) | exact HK.out)) hf1_7); (case side4 => exact HC1_7.out); (case side5 => exact hf1_7); rintro e w20 ⟨rfl, hi, hb, hk⟩; refine ⟨_, rfl, ?_⟩; have n0_ := Aside0.mk (KeepBut.blk hk (g' := gb121) (o := .cells #[.int .i64 a1_0, .int .i64 a1_1, .bool a1_2, .int .i64 a1_3, .string a1_4, .bool a1_5, .string a1_6, .slice A1_7 l1_7.length c1_7, .int .i64 a1_8, .bool a1_9, .bool a1_10, .string a1_11, .bool a1_12, .slice A1_13 l1_13.length c1_13, .bool a1_14, .int .i64 a1_15, .bool a1_16, .string a1_17, .slice A1_18 l1_18.length c1_18, .int .i64 a1_19, .bool a1_20, .int .i64 a1_21, .slice A1_22 l1_22.length c1_22, .slice A1_23 l1_23.length c1_23, .slice A1_24 l1_24.length c1_24] 29 (0, 0)) (by (with_reducible repeat (first | refine blk_drewN ?_ _ | refine blk_drew ?_ | refine blk_alloc ?_ _)); exact BK121.out) NB121_0.out (by simp)); have n1_ := Aside0.mk (KeepBut.trans (by repeat (first | (with_reducible first | exact HK.out | apply KeepBut.set_ | apply keep_drewN | apply keep_drew | apply keep_alloc | refine keep_far ?_ GW121.out _) | exact HK.out)) hk (.inl rfl)); have n2_ := Aside0.mk (hb); have n3_ := Aside0.mk (hi); clear BK121; clear HK; clear HB; clear HI0; have BK121 := n0_; have HK := n1_; have HB := n2_; have HI0 := n3_; clear n0_ n1_ n2_ n3_; (try clear hb); have hcz21_0 : w20.cell? ⟨gb121, 0, none⟩ = some (.int .i64 a1_0) := (blk_cell BK121.out 0).trans rfl; have hcz21_1 : w20.cell? ⟨gb121, 1, none⟩ = some (.int .i64 a1_1) := (blk_cell BK121.out 1).trans rfl; have hcz21_2 : w20.cell? ⟨gb121, 2, none⟩ = some (.bool a1_2) := (blk_cell BK121.out 2).trans rfl; have hcz21_3 : w20.cell? ⟨gb121, 3, none⟩ = some (.int .i64 a1_3) := (blk_cell BK121.out 3).trans rfl; have hcz21_4 : w20.cell? ⟨gb121, 4, none⟩ = some (.string a1_4) := (blk_cell BK121.out 4).trans rfl; have hcz21_5 : w20.cell? ⟨gb121, 5, none⟩ = some (.bool a1_5) := (blk_cell BK121.out 5).trans rfl; have hcz21_6 : w20.cell? ⟨gb121, 6, none⟩ = some (.string a1_6) := (blk_cell BK121.out 6).trans rfl; have hcz21_7 : w20.cell? ⟨gb121, 7, none⟩ = some (.slice A1_7 l1_7.length c1_7) := (blk_cell BK121.out 7).trans rfl; have hcz21_8 : w20.cell? ⟨gb121, 8, none⟩ = some (.int .i64 a1_8) := (blk_cell BK121.out 8).trans rfl; have hcz21_9 : w20.cell? ⟨gb121, 9, none⟩ = some (.bool a1_9) := (blk_cell BK121.out 9).trans rfl; have hcz21_10 : w20.cell? ⟨gb121, 10, none⟩ = some (.bool a1_10) := (blk_cell BK121.out 10).trans rfl; have hcz21_11 : w20.cell? ⟨gb121, 11, none⟩ = some (.string a1_11) := (blk_cell BK121.out 11).trans rfl; have hcz21_12 : w20.cell? ⟨gb121, 12, none⟩ = some (.bool a1_12) := (blk_cell BK121.out 12).trans rfl; have hcz21_13 : w20.cell? ⟨gb121, 13, none⟩ = some (.slice A1_13 l1_13.length c1_13) := (blk_cell BK121.out 13).trans rfl; have hcz21_14 : w20.cell? ⟨gb121, 14, none⟩ = some (.bool a1_14) := (blk_cell BK121.out 14).trans rfl; have hcz21_15 : w20.cell? ⟨gb121, 15, none⟩ = some (.int .i64 a1_15) := (blk_cell BK121.out 15).trans rfl; have hcz21_16 : w20.cell? ⟨gb121, 16, none⟩ = some (.bool a1_16) := (blk_cell BK121.out 16).trans rfl; have hcz21_17 : w20.cell? ⟨gb121, 17, none⟩ = some (.string a1_17) := (blk_cell BK121.out 17).trans rfl; have hcz21_18 : w20.cell? ⟨gb121, 18, none⟩ = some (.slice A1_18 l1_18.length c1_18) := (blk_cell BK121.out 18).trans rfl; have hcz21_19 : w20.cell? ⟨gb121, 19, none⟩ = some (.int .i64 a1_19) := (blk_cell BK121.out 19).trans rfl; have hcz21_20 : w20.cell? ⟨gb121, 20, none⟩ = some (.bool a1_20) := (blk_cell BK121.out 20).trans rfl; have hcz21_21 : w20.cell? ⟨gb121, 21, none⟩ = some (.int .i64 a1_21) := (blk_cell BK121.out 21).trans rfl; have hcz21_22 : w20.cell? ⟨gb121, 22, none⟩ = some (.slice A1_22 l1_22.length c1_22) := (blk_cell BK121.out 22).trans rfl; have hcz21_23 : w20.cell? ⟨gb121, 23, none⟩ = some (.slice A1_23 l1_23.length c1_23) := (blk_cell BK121.out 23).trans rfl; have hcz21_24 : w20.cell? ⟨gb121, 24, none⟩ = some (.slice A1_24 l1_24.length c1_24) := (blk_cell BK121.out 24).trans rfl; have hfz21_0 := blk_frozen BK121.out 0; have hfz21_1 := blk_frozen BK121.out 1; have hfz21_2 := blk_frozen BK121.out 2; have hfz21_3 := blk_frozen BK121.out 3; have hfz21_4 := blk_frozen BK121.out 4; have hfz21_5 := blk_frozen BK121.out 5; have hfz21_6 := blk_frozen BK121.out 6; have hfz21_7 := blk_frozen BK121.out 7; have hfz21_8 := blk_frozen BK121.out 8; have hfz21_9 := blk_frozen BK121.out 9; have hfz21_10 := blk_frozen BK121.out 10; have hfz21_11 := blk_frozen BK121.out 11; have hfz21_12 := blk_frozen BK121.out 12; have hfz21_13 := blk_frozen BK121.out 13; have hfz21_14 := blk_frozen BK121.out 14; have hfz21_15 := blk_frozen BK121.out 15; have hfz21_16 := blk_frozen BK121.out 16; have hfz21_17 := blk_frozen BK121.out 17; have hfz21_18 := blk_frozen BK121.out 18; have hfz21_19 := blk_frozen BK121.out 19; have hfz21_20 := blk_frozen BK121.out 20; have hfz21_21 := blk_frozen BK121.out 21; have hfz21_22 := blk_frozen BK121.out 22; have hfz21_23 := blk_frozen BK121.out 23; have hfz21_24 := blk_frozen BK121.out 24) | ((with_reducible refine gate_callee (f := 139) rfl ?_); refine goesL_ (some 23) rfl rfl Tryz.func139 (by kernel_rfl) rfl #[.pointer (some ⟨g, 0, none⟩), .agg #[.string a1_17, .slice A1_18 l1_18.length c1_18, .int .i64 a1_19, .bool a1_20]] rfl (by (try simp only [List.map_toArray, List.map_cons, List.map_nil]); first | done | rfl | (simp only [List.length_drop, List.length_take]; rfl)) ?_; (with_reducible refine (crierroom_Count_Message.calls g t125 a1_17 _ _ l1_18 a1_19 a1_20 t126 w0 _ ?side1 ?side2 ?side3 ?side4 ?side5 A7.out).mono ?_); (case side1 => repeat (first | (with_reducible first | exact HI0.out | apply IsS91.alloc | apply IsS91.drewN | apply IsS91.drew | apply IsS91.set_0 | refine IsS91.far ?_ NB0_121.out _) | exact HI0.out)); (case side2 => repeat (first | (with_reducible first | exact HB.out | apply below_alloc | apply pw_below_drewN | apply below_drew1 | refine below_set ?_ (IsS91.ge HI0.out) | refine below_set ?_ GE121.out) | exact HB.out)); (case side3 => exact Kd.C_keep 0 HR1_18.out (by repeat (first | (with_reducible first | exact HK.out | apply KeepBut.set_ | apply keep_drewN | apply keep_drew | apply keep_alloc | refine keep_far ?_ GW121.out _) | exact HK.out)) hf1_18); (case side4 => exact HC1_18.out); (case side5 => exact hf1_18); rintro e w22 ⟨rfl, hi, hb, hk⟩; refine ⟨_, rfl, ?_⟩; have n0_ := Aside0.mk (KeepBut.blk hk (g' := gb121) (o := .cells #[.int .i64 a1_0, .int .i64 a1_1, .bool a1_2, .int .i64 a1_3, .string a1_4, .bool a1_5, .string a1_6, .slice A1_7 l1_7.length c1_7, .int .i64 a1_8, .bool a1_9, .bool a1_10, .string a1_11, .bool a1_12, .slice A1_13 l1_13.length c1_13, .bool a1_14, .int .i64 a1_15, .bool a1_16, .string a1_17, .slice A1_18 l1_18.length c1_18, .int .i64 a1_19, .bool a1_20, .int .i64 a1_21, .slice A1_22 l1_22.length c1_22, .slice A1_23 l1_23.length c1_23, .slice A1_24 l1_24.length c1_24] 29 (0, 0)) (by (with_reducible repeat (first | refine blk_drewN ?_ _ | refine blk_drew ?_ | refine blk_alloc ?_ _)); exact BK121.out) NB121_0.out (by simp)); have n1_ := Aside0.mk (KeepBut.trans (by repeat (first | (with_reducible first | exact HK.out | apply KeepBut.set_ | apply keep_drewN | apply keep_drew | apply keep_alloc | refine keep_far ?_ GW121.out _) | exact HK.out)) hk (.inl rfl)); have n2_ := Aside0.mk (hb); have n3_ := Aside0.mk (hi); clear BK121; clear HK; clear HB; clear HI0; have BK121 := n0_; have HK := n1_; have HB := n2_; have HI0 := n3_; clear n0_ n1_ n2_ n3_; (try clear hb); have hcz23_0 : w22.cell? ⟨gb121, 0, none⟩ = some (.int .i64 a1_0) := (blk_cell BK121.out 0).trans rfl; have hcz23_1 : w22.cell? ⟨gb121, 1, none⟩ = some (.int .i64 a1_1) := (blk_cell BK121.out 1).trans rfl; have hcz23_2 : w22.cell? ⟨gb121, 2, none⟩ = some (.bool a1_2) := (blk_cell BK121.out 2).trans rfl; have hcz23_3 : w22.cell? ⟨gb121, 3, none⟩ = some (.int .i64 a1_3) := (blk_cell BK121.out 3).trans rfl; have hcz23_4 : w22.cell? ⟨gb121, 4, none⟩ = some (.string a1_4) := (blk_cell BK121.out 4).trans rfl; have hcz23_5 : w22.cell? ⟨gb121, 5, none⟩ = some (.bool a1_5) := (blk_cell BK121.out 5).trans rfl; have hcz23_6 : w22.cell? ⟨gb121, 6, none⟩ = some (.string a1_6) := (blk_cell BK121.out 6).trans rfl; have hcz23_7 : w22.cell? ⟨gb121, 7, none⟩ = some (.slice A1_7 l1_7.length c1_7) := (blk_cell BK121.out 7).trans rfl; have hcz23_8 : w22.cell? ⟨gb121, 8, none⟩ = some (.int .i64 a1_8) := (blk_cell BK121.out 8).trans rfl; have hcz23_9 : w22.cell? ⟨gb121, 9, none⟩ = some (.bool a1_9) := (blk_cell BK121.out 9).trans rfl; have hcz23_10 : w22.cell? ⟨gb121, 10, none⟩ = some (.bool a1_10) := (blk_cell BK121.out 10).trans rfl; have hcz23_11 : w22.cell? ⟨gb121, 11, none⟩ = some (.string a1_11) := (blk_cell BK121.out 11).trans rfl; have hcz23_12 : w22.cell? ⟨gb121, 12, none⟩ = some (.bool a1_12) := (blk_cell BK121.out 12).trans rfl; have hcz23_13 : w22.cell? ⟨gb121, 13, none⟩ = some (.slice A1_13 l1_13.length c1_13) := (blk_cell BK121.out 13).trans rfl; have hcz23_14 : w22.cell? ⟨gb121, 14, none⟩ = some (.bool a1_14) := (blk_cell BK121.out 14).trans rfl; have hcz23_15 : w22.cell? ⟨gb121, 15, none⟩ = some (.int .i64 a1_15) := (blk_cell BK121.out 15).trans rfl; have hcz23_16 : w22.cell? ⟨gb121, 16, none⟩ = some (.bool a1_16) := (blk_cell BK121.out 16).trans rfl; have hcz23_17 : w22.cell? ⟨gb121, 17, none⟩ = some (.string a1_17) := (blk_cell BK121.out 17).trans rfl; have hcz23_18 : w22.cell? ⟨gb121, 18, none⟩ = some (.slice A1_18 l1_18.length c1_18) := (blk_cell BK121.out 18).trans rfl; have hcz23_19 : w22.cell? ⟨gb121, 19, none⟩ = some (.int .i64 a1_19) := (blk_cell BK121.out 19).trans rfl; have hcz23_20 : w22.cell? ⟨gb121, 20, none⟩ = some (.bool a1_20) := (blk_cell BK121.out 20).trans rfl; have hcz23_21 : w22.cell? ⟨gb121, 21, none⟩ = some (.int .i64 a1_21) := (blk_cell BK121.out 21).trans rfl; have hcz23_22 : w22.cell? ⟨gb121, 22, none⟩ = some (.slice A1_22 l1_22.length c1_22) := (blk_cell BK121.out 22).trans rfl; have hcz23_23 : w22.cell? ⟨gb121, 23, none⟩ = some (.slice A1_23 l1_23.length c1_23) := (blk_cell BK121.out 23).trans rfl; have hcz23_24 : w22.cell? ⟨gb121, 24, none⟩ = some (.slice A1_24 l1_24.length c1_24) := (blk_cell BK121.out 24).trans rfl; have hfz23_0 := blk_frozen BK121.out 0; have hfz23_1 := blk_frozen BK121.out 1; have hfz23_2 := blk_frozen BK121.out 2; have hfz23_3 := blk_frozen BK121.out 3; have hfz23_4 := blk_frozen BK121.out 4; have hfz23_5 := blk_frozen BK121.out 5; have hfz23_6 := blk_frozen BK121.out 6; have hfz23_7 := blk_frozen BK121.out 7; have hfz23_8 := blk_frozen BK121.out 8; have hfz23_9 := blk_frozen BK121.out 9; have hfz23_10 := blk_frozen BK121.out 10; have hfz23_11 := blk_frozen BK121.out 11; have hfz23_12 := blk_frozen BK121.out 12; have hfz23_13 := blk_frozen BK121.out 13; have hfz23_14 := blk_frozen BK121.out 14; have hfz23_15 := blk_frozen BK121.out 15; have hfz23_16 := blk_frozen BK121.out 16; have hfz23_17 := blk_frozen BK121.out 17; have hfz23_18 := blk_frozen BK121.out 18; have hfz23_19 := blk_frozen BK121.out 19; have hfz23_20 := blk_frozen BK121.out 20; have hfz23_21 := blk_frozen BK121.out 21; have hfz23_22 := blk_frozen BK121.out 22; have hfz23_23 := blk_frozen BK121.out 23; have hfz23_24 := blk_frozen BK121.out 24) | ((with_reducible refine gate_callee (f := 140) rfl ?_); refine goesL_ (some 27) rfl rfl Tryz.func140 (by kernel_rfl) rfl #[.pointer (some ⟨g, 0, none⟩), .slice A1_22 l1_22.length c1_22] rfl (by (try simp only [List.map_toArray, List.map_cons, List.map_nil]); first | done | rfl | (simp only [List.length_drop, List.length_take]; rfl)) ?_; (with_reducible refine (crierroom_Count_Asks.calls k g t126 _ _ l1_22 t127 w0 _ ?side1 ?side2 ?side3 ?side4 A8.out).mono ?_); (case side1 => repeat (first | (with_reducible first | exact HI0.out | apply IsS91.alloc | apply IsS91.drewN | apply IsS91.drew | apply IsS91.set_0 | refine IsS91.far ?_ NB0_121.out _) | exact HI0.out)); (case side2 => repeat (first | (with_reducible first | exact HB.out | apply below_alloc | apply pw_below_drewN | apply below_drew1 | refine below_set ?_ (IsS91.ge HI0.out) | refine below_set ?_ GE121.out) | exact HB.out)); (case side3 => exact Kd.C_foot_step HR1_22.out (by repeat (first | (with_reducible first | exact HK.out | apply KeepBut.set_ | apply keep_drewN | apply keep_drew | apply keep_alloc | refine keep_far ?_ GW121.out _) | exact HK.out))); (case side4 => exact HC1_22.out); rintro e w24 ⟨rfl, hi, hb, hk⟩; refine ⟨_, rfl, ?_⟩; have n0_ := Aside0.mk (KeepBut.blk hk (g' := gb121) (o := .cells #[.int .i64 a1_0, .int .i64 a1_1, .bool a1_2, .int .i64 a1_3, .string a1_4, .bool a1_5, .string a1_6, .slice A1_7 l1_7.length c1_7, .int .i64 a1_8, .bool a1_9, .bool a1_10, .string a1_11, .bool a1_12, .slice A1_13 l1_13.length c1_13, .bool a1_14, .int .i64 a1_15, .bool a1_16, .string a1_17, .slice A1_18 l1_18.length c1_18, .int .i64 a1_19, .bool a1_20, .int .i64 a1_21, .slice A1_22 l1_22.length c1_22, .slice A1_23 l1_23.length c1_23, .slice A1_24 l1_24.length c1_24] 29 (0, 0)) (by (with_reducible repeat (first | refine blk_drewN ?_ _ | refine blk_drew ?_ | refine blk_alloc ?_ _)); exact BK121.out) NB121_0.out (by simp)); have n1_ := Aside0.mk (KeepBut.trans (by repeat (first | (with_reducible first | exact HK.out | apply KeepBut.set_ | apply keep_drewN | apply keep_drew | apply keep_alloc | refine keep_far ?_ GW121.out _) | exact HK.out)) hk (.inl rfl)); have n2_ := Aside0.mk (hb); have n3_ := Aside0.mk (hi); clear BK121; clear HK; clear HB; clear HI0; have BK121 := n0_; have HK := n1_; have HB := n2_; have HI0 := n3_; clear n0_ n1_ n2_ n3_; (try clear hb); have hcz25_0 : w24.cell? ⟨gb121, 0, none⟩ = some (.int .i64 a1_0) := (blk_cell BK121.out 0).trans rfl; have hcz25_1 : w24.cell? ⟨gb121, 1, none⟩ = some (.int .i64 a1_1) := (blk_cell BK121.out 1).trans rfl; have hcz25_2 : w24.cell? ⟨gb121, 2, none⟩ = some (.bool a1_2) := (blk_cell BK121.out 2).trans rfl; have hcz25_3 : w24.cell? ⟨gb121, 3, none⟩ = some (.int .i64 a1_3) := (blk_cell BK121.out 3).trans rfl; have hcz25_4 : w24.cell? ⟨gb121, 4, none⟩ = some (.string a1_4) := (blk_cell BK121.out 4).trans rfl; have hcz25_5 : w24.cell? ⟨gb121, 5, none⟩ = some (.bool a1_5) := (blk_cell BK121.out 5).trans rfl; have hcz25_6 : w24.cell? ⟨gb121, 6, none⟩ = some (.string a1_6) := (blk_cell BK121.out 6).trans rfl; have hcz25_7 : w24.cell? ⟨gb121, 7, none⟩ = some (.slice A1_7 l1_7.length c1_7) := (blk_cell BK121.out 7).trans rfl; have hcz25_8 : w24.cell? ⟨gb121, 8, none⟩ = some (.int .i64 a1_8) := (blk_cell BK121.out 8).trans rfl; have hcz25_9 : w24.cell? ⟨gb121, 9, none⟩ = some (.bool a1_9) := (blk_cell BK121.out 9).trans rfl; have hcz25_10 : w24.cell? ⟨gb121, 10, none⟩ = some (.bool a1_10) := (blk_cell BK121.out 10).trans rfl; have hcz25_11 : w24.cell? ⟨gb121, 11, none⟩ = some (.string a1_11) := (blk_cell BK121.out 11).trans rfl; have hcz25_12 : w24.cell? ⟨gb121, 12, none⟩ = some (.bool a1_12) := (blk_cell BK121.out 12).trans rfl; have hcz25_13 : w24.cell? ⟨gb121, 13, none⟩ = some (.slice A1_13 l1_13.length c1_13) := (blk_cell BK121.out 13).trans rfl; have hcz25_14 : w24.cell? ⟨gb121, 14, none⟩ = some (.bool a1_14) := (blk_cell BK121.out 14).trans rfl; have hcz25_15 : w24.cell? ⟨gb121, 15, none⟩ = some (.int .i64 a1_15) := (blk_cell BK121.out 15).trans rfl; have hcz25_16 : w24.cell? ⟨gb121, 16, none⟩ = some (.bool a1_16) := (blk_cell BK121.out 16).trans rfl; have hcz25_17 : w24.cell? ⟨gb121, 17, none⟩ = some (.string a1_17) := (blk_cell BK121.out 17).trans rfl; have hcz25_18 : w24.cell? ⟨gb121, 18, none⟩ = some (.slice A1_18 l1_18.length c1_18) := (blk_cell BK121.out 18).trans rfl; have hcz25_19 : w24.cell? ⟨gb121, 19, none⟩ = some (.int .i64 a1_19) := (blk_cell BK121.out 19).trans rfl; have hcz25_20 : w24.cell? ⟨gb121, 20, none⟩ = some (.bool a1_20) := (blk_cell BK121.out 20).trans rfl; have hcz25_21 : w24.cell? ⟨gb121, 21, none⟩ = some (.int .i64 a1_21) := (blk_cell BK121.out 21).trans rfl; have hcz25_22 : w24.cell? ⟨gb121, 22, none⟩ = some (.slice A1_22 l1_22.length c1_22) := (blk_cell BK121.out 22).trans rfl; have hcz25_23 : w24.cell? ⟨gb121, 23, none⟩ = some (.slice A1_23 l1_23.length c1_23) := (blk_cell BK121.out 23).trans rfl; have hcz25_24 : w24.cell? ⟨gb121, 24, none⟩ = some (.slice A1_24 l1_24.length c1_24) := (blk_cell BK121.out 24).trans rfl; have hfz25_0 := blk_frozen BK121.out 0; have hfz25_1 := blk_frozen BK121.out 1; have hfz25_2 := blk_frozen BK121.out 2; have hfz25_3 := blk_frozen BK121.out 3; have hfz25_4 := blk_frozen BK121.out 4; have hfz25_5 := blk_frozen BK121.out 5; have hfz25_6 := blk_frozen BK121.out 6; have hfz25_7 := blk_frozen BK121.out 7; have hfz25_8 := blk_frozen BK121.out 8; have hfz25_9 := blk_frozen BK121.out 9; have hfz25_10 := blk_frozen BK121.out 10; have hfz25_11 := blk_frozen BK121.out 11; have hfz25_12 := blk_frozen BK121.out 12; have hfz25_13 := blk_frozen BK121.out 13; have hfz25_14 := blk_frozen BK121.out 14; have hfz25_15 := blk_frozen BK121.out 15; have hfz25_16 := blk_frozen BK121.out 16; have hfz25_17 := blk_frozen BK121.out 17; have hfz25_18 := blk_frozen BK121.out 18; have hfz25_19 := blk_frozen BK121.out 19; have hfz25_20 := blk_frozen BK121.out 20; have hfz25_21 := blk_frozen BK121.out 21; have hfz25_22 := blk_frozen BK121.out 22; have hfz25_23 := blk_frozen BK121.out 23; have hfz25_24 := blk_frozen BK121.out 24) | ((with_reducible refine gate_callee (f := 141) rfl ?_); refine goesL_ (some 32) rfl rfl Tryz.func141 (by kernel_rfl) rfl #[.pointer (some ⟨g, 0, none⟩), .int .i64 (l1_23.length : Int)] rfl (by (try simp only [List.map_toArray, List.map_cons, List.map_nil]); first | done | rfl | (simp only [List.length_drop, List.length_take]; rfl)) ?_; (with_reducible refine (crierroom_Count_Add.calls g t127 (l1_23.length : Int) t128 t129 w0 _ ?side1 ?side2 A9.out).mono ?_); (case side1 => repeat (first | (with_reducible first | exact HI0.out | apply IsS91.alloc | apply IsS91.drewN | apply IsS91.drew | apply IsS91.set_0 | refine IsS91.far ?_ NB0_121.out _) | exact HI0.out)); (case side2 => repeat (first | (with_reducible first | exact HB.out | apply below_alloc | apply pw_below_drewN | apply below_drew1 | refine below_set ?_ (IsS91.ge HI0.out) | refine below_set ?_ GE121.out) | exact HB.out)); rintro e w26 ⟨rfl, hi, hb, hk⟩; refine ⟨_, rfl, ?_⟩; have n0_ := Aside0.mk (KeepBut.blk hk (g' := gb121) (o := .cells #[.int .i64 a1_0, .int .i64 a1_1, .bool a1_2, .int .i64 a1_3, .string a1_4, .bool a1_5, .string a1_6, .slice A1_7 l1_7.length c1_7, .int .i64 a1_8, .bool a1_9, .bool a1_10, .string a1_11, .bool a1_12, .slice A1_13 l1_13.length c1_13, .bool a1_14, .int .i64 a1_15, .bool a1_16, .string a1_17, .slice A1_18 l1_18.length c1_18, .int .i64 a1_19, .bool a1_20, .int .i64 a1_21, .slice A1_22 l1_22.length c1_22, .slice A1_23 l1_23.length c1_23, .slice A1_24 l1_24.length c1_24] 29 (0, 0)) (by (with_reducible repeat (first | refine blk_drewN ?_ _ | refine blk_drew ?_ | refine blk_alloc ?_ _)); exact BK121.out) NB121_0.out (by simp)); have n1_ := Aside0.mk (KeepBut.trans (by repeat (first | (with_reducible first | exact HK.out | apply KeepBut.set_ | apply keep_drewN | apply keep_drew | apply keep_alloc | refine keep_far ?_ GW121.out _) | exact HK.out)) hk (.inl rfl)); have n2_ := Aside0.mk (hb); have n3_ := Aside0.mk (hi); clear BK121; clear HK; clear HB; clear HI0; have BK121 := n0_; have HK := n1_; have HB := n2_; have HI0 := n3_; clear n0_ n1_ n2_ n3_; (try clear hb); have hcz27_0 : w26.cell? ⟨gb121, 0, none⟩ = some (.int .i64 a1_0) := (blk_cell BK121.out 0).trans rfl; have hcz27_1 : w26.cell? ⟨gb121, 1, none⟩ = some (.int .i64 a1_1) := (blk_cell BK121.out 1).trans rfl; have hcz27_2 : w26.cell? ⟨gb121, 2, none⟩ = some (.bool a1_2) := (blk_cell BK121.out 2).trans rfl; have hcz27_3 : w26.cell? ⟨gb121, 3, none⟩ = some (.int .i64 a1_3) := (blk_cell BK121.out 3).trans rfl; have hcz27_4 : w26.cell? ⟨gb121, 4, none⟩ = some (.string a1_4) := (blk_cell BK121.out 4).trans rfl; have hcz27_5 : w26.cell? ⟨gb121, 5, none⟩ = some (.bool a1_5) := (blk_cell BK121.out 5).trans rfl; have hcz27_6 : w26.cell? ⟨gb121, 6, none⟩ = some (.string a1_6) := (blk_cell BK121.out 6).trans rfl; have hcz27_7 : w26.cell? ⟨gb121, 7, none⟩ = some (.slice A1_7 l1_7.length c1_7) := (blk_cell BK121.out 7).trans rfl; have hcz27_8 : w26.cell? ⟨gb121, 8, none⟩ = some (.int .i64 a1_8) := (blk_cell BK121.out 8).trans rfl; have hcz27_9 : w26.cell? ⟨gb121, 9, none⟩ = some (.bool a1_9) := (blk_cell BK121.out 9).trans rfl; have hcz27_10 : w26.cell? ⟨gb121, 10, none⟩ = some (.bool a1_10) := (blk_cell BK121.out 10).trans rfl; have hcz27_11 : w26.cell? ⟨gb121, 11, none⟩ = some (.string a1_11) := (blk_cell BK121.out 11).trans rfl; have hcz27_12 : w26.cell? ⟨gb121, 12, none⟩ = some (.bool a1_12) := (blk_cell BK121.out 12).trans rfl; have hcz27_13 : w26.cell? ⟨gb121, 13, none⟩ = some (.slice A1_13 l1_13.length c1_13) := (blk_cell BK121.out 13).trans rfl; have hcz27_14 : w26.cell? ⟨gb121, 14, none⟩ = some (.bool a1_14) := (blk_cell BK121.out 14).trans rfl; have hcz27_15 : w26.cell? ⟨gb121, 15, none⟩ = some (.int .i64 a1_15) := (blk_cell BK121.out 15).trans rfl; have hcz27_16 : w26.cell? ⟨gb121, 16, none⟩ = some (.bool a1_16) := (blk_cell BK121.out 16).trans rfl; have hcz27_17 : w26.cell? ⟨gb121, 17, none⟩ = some (.string a1_17) := (blk_cell BK121.out 17).trans rfl; have hcz27_18 : w26.cell? ⟨gb121, 18, none⟩ = some (.slice A1_18 l1_18.length c1_18) := (blk_cell BK121.out 18).trans rfl; have hcz27_19 : w26.cell? ⟨gb121, 19, none⟩ = some (.int .i64 a1_19) := (blk_cell BK121.out 19).trans rfl; have hcz27_20 : w26.cell? ⟨gb121, 20, none⟩ = some (.bool a1_20) := (blk_cell BK121.out 20).trans rfl; have hcz27_21 : w26.cell? ⟨gb121, 21, none⟩ = some (.int .i64 a1_21) := (blk_cell BK121.out 21).trans rfl; have hcz27_22 : w26.cell? ⟨gb121, 22, none⟩ = some (.slice A1_22 l1_22.length c1_22) := (blk_cell BK121.out 22).trans rfl; have hcz27_23 : w26.cell? ⟨gb121, 23, none⟩ = some (.slice A1_23 l1_23.length c1_23) := (blk_cell BK121.out 23).trans rfl; have hcz27_24 : w26.cell? ⟨gb121, 24, none⟩ = some (.slice A1_24 l1_24.length c1_24) := (blk_cell BK121.out 24).trans rfl; have hfz27_0 := blk_frozen BK121.out 0; have hfz27_1 := blk_frozen BK121.out 1; have hfz27_2 := blk_frozen BK121.out 2; have hfz27_3 := blk_frozen BK121.out 3; have hfz27_4 := blk_frozen BK121.out 4; have hfz27_5 := blk_frozen BK121.out 5; have hfz27_6 := blk_frozen BK121.out 6; have hfz27_7 := blk_frozen BK121.out 7; have hfz27_8 := blk_frozen BK121.out 8; have hfz27_9 := blk_frozen BK121.out 9; have hfz27_10 := blk_frozen BK121.out 10; have hfz27_11 := blk_frozen BK121.out 11; have hfz27_12 := blk_frozen BK121.out 12; have hfz27_13 := blk_frozen BK121.out 13; have hfz27_14 := blk_frozen BK121.out 14; have hfz27_15 := blk_frozen BK121.out 15; have hfz27_16 := blk_frozen BK121.out 16; have hfz27_17 := blk_frozen BK121.out 17; have hfz27_18 := blk_frozen BK121.out 18; have hfz27_19 := blk_frozen BK121.out 19; have hfz27_20 := blk_frozen BK121.out 20; have hfz27_21 := blk_frozen BK121.out 21; have hfz27_22 := blk_frozen BK121.out 22; have hfz27_23 := blk_frozen BK121.out 23; have hfz27_24 := blk_frozen BK121.out 24) | ((with_reducible refine gate_callee (f := 142) rfl ?_); refine goesL_ (some 36) rfl rfl Tryz.func142 (by kernel_rfl) rfl #[.pointer (some ⟨g, 0, none⟩), .slice A1_24 l1_24.length c1_24] rfl (by (try simp only [List.map_toArray, List.map_cons, List.map_nil]); first | done | rfl | (simp only [List.length_drop, List.length_take]; rfl)) ?_; (with_reducible refine (crierroom_Count_Texts.calls k g t129 _ _ l1_24 t130 w0 _ ?side1 ?side2 ?side3 ?side4 ?side5 A10.out).mono ?_); (case side1 => repeat (first | (with_reducible first | exact HI0.out | apply IsS91.alloc | apply IsS91.drewN | apply IsS91.drew | apply IsS91.set_0 | refine IsS91.far ?_ NB0_121.out _) | exact HI0.out)); (case side2 => repeat (first | (with_reducible first | exact HB.out | apply below_alloc | apply pw_below_drewN | apply below_drew1 | refine below_set ?_ (IsS91.ge HI0.out) | refine below_set ?_ GE121.out) | exact HB.out)); (case side3 => exact Kd.C_keep (⟨#[]⟩ : ByteArray) HR1_24.out (by repeat (first | (with_reducible first | exact HK.out | apply KeepBut.set_ | apply keep_drewN | apply keep_drew | apply keep_alloc | refine keep_far ?_ GW121.out _) | exact HK.out)) hf1_24); (case side4 => exact HC1_24.out); (case side5 => exact hf1_24); rintro e w28 ⟨rfl, hi, hb, hk⟩; refine ⟨_, rfl, ?_⟩; have n0_ := Aside0.mk (KeepBut.blk hk (g' := gb121) (o := .cells #[.int .i64 a1_0, .int .i64 a1_1, .bool a1_2, .int .i64 a1_3, .string a1_4, .bool a1_5, .string a1_6, .slice A1_7 l1_7.length c1_7, .int .i64 a1_8, .bool a1_9, .bool a1_10, .string a1_11, .bool a1_12, .slice A1_13 l1_13.length c1_13, .bool a1_14, .int .i64 a1_15, .bool a1_16, .string a1_17, .slice A1_18 l1_18.length c1_18, .int .i64 a1_19, .bool a1_20, .int .i64 a1_21, .slice A1_22 l1_22.length c1_22, .slice A1_23 l1_23.length c1_23, .slice A1_24 l1_24.length c1_24] 29 (0, 0)) (by (with_reducible repeat (first | refine blk_drewN ?_ _ | refine blk_drew ?_ | refine blk_alloc ?_ _)); exact BK121.out) NB121_0.out (by simp)); have n1_ := Aside0.mk (KeepBut.trans (by repeat (first | (with_reducible first | exact HK.out | apply KeepBut.set_ | apply keep_drewN | apply keep_drew | apply keep_alloc | refine keep_far ?_ GW121.out _) | exact HK.out)) hk (.inl rfl)); have n2_ := Aside0.mk (hb); have n3_ := Aside0.mk (hi); clear BK121; clear HK; clear HB; clear HI0; have BK121 := n0_; have HK := n1_; have HB := n2_; have HI0 := n3_; clear n0_ n1_ n2_ n3_; (try clear hb)))
 first | go_end0 | ((try simp only [Exit.inBlock, Exit.then]); refine bodyPost_ret (results_none rfl _ _ _) rfl ?_)
 exact ⟨by first | rfl | (simp [errW_none, errW_some] <;> rfl) | (simp [*, errW_none, errW_some] <;> rfl), by repeat (first | (with_reducible first | exact HI0.out | apply IsS91.alloc | apply IsS91.drewN | apply IsS91.drew | apply IsS91.set_0 | refine IsS91.far ?_ NB0_121.out _) | exact HI0.out), by repeat (first | (with_reducible first | exact HB.out | apply below_alloc | apply pw_below_drewN | apply below_drew1 | refine below_set ?_ (IsS91.ge HI0.out) | refine below_set ?_ GE121.out) | exact HB.out), by repeat (first | (with_reducible first | exact HK.out | apply KeepBut.set_ | apply keep_drewN | apply keep_drew | apply keep_alloc | refine keep_far ?_ GW121.out _) | exact HK.out)⟩

-- NOT PRINTED: function 17 (crierroom_Count_Packets)

-- NOT PRINTED: function 5 (crierlaw2_few)

/-! ### crierroom_lot: function 110 -/
def crierroom_lot.f (a0 : Int) : Option (Int) := if (Int.tmod a0 2) = 0 then (some (-7701)) else (some (-7702))
set_option maxHeartbeats 8000000 in
set_option maxRecDepth 100000 in
theorem crierroom_lot.calls (a0 : Int) (r : Int) (w : World) (h : crierroom_lot.f a0 = some r) :
  Calls Tryz.prog 110 #[.int .i64 a0] w fun e w' => e = .returned (.int .i64 r) ∧ Drawn0 w w' := by
 have H : (if (Int.tmod a0 2) = 0 then (some (-7701)) else (some (-7702))) = some r := h
 clear h
 by_cases c2 : (Int.tmod a0 2) = 0
 ·rw [if_pos c2] at H
  have c2b0 : ((Int.tmod a0 2) == 0) = true := beq_iff_eq.mpr c2
  have c2b1 : ((Int.tmod a0 2) != 0) = false := bne_eq_false_iff_eq.mpr c2
  clear c2
  obtain rfl := Option.some.inj H
  go_enter Tryz.func110, Tryz.ntmps110
  go_wp2
  go_ret
  exact ⟨by first | rfl | (simp; done) | (simp [*]; done), by repeat (first | exact Drawn0.refl _ | apply Drawn0.step)⟩
 ·rw [if_neg c2] at H
  have c2b0 : ((Int.tmod a0 2) == 0) = false := beq_eq_false_iff_ne.mpr c2
  have c2b1 : ((Int.tmod a0 2) != 0) = true := bne_iff_ne.mpr c2
  obtain rfl := Option.some.inj H
  go_enter Tryz.func110, Tryz.ntmps110
  go_wp2
  go_ret
  exact ⟨by first | rfl | (simp; done) | (simp [*]; done), by repeat (first | exact Drawn0.refl _ | apply Drawn0.step)⟩

-- NOT PRINTED: function 88 (crierroom_Room_layBytes)

-- NOT PRINTED: function 20 (crierroom_Room_Bytes)

-- NOT PRINTED: function 19 (crierroom_Room_Message)

/-! ### crierroom_word: function 111 -/
def crierroom_word.f (a0 : Int) : Option (ByteArray) := if (Int.tmod a0 2) = 0 then (some (⟨#[60, 111, 110, 101, 62]⟩ : ByteArray)) else (some (⟨#[60, 116, 119, 111, 62]⟩ : ByteArray))
set_option maxHeartbeats 8000000 in
set_option maxRecDepth 100000 in
theorem crierroom_word.calls (a0 : Int) (r : ByteArray) (w : World) (h : crierroom_word.f a0 = some r) :
  Calls Tryz.prog 111 #[.int .i64 a0] w fun e w' => e = .returned (.string r) ∧ Drawn0 w w' := by
 have H : (if (Int.tmod a0 2) = 0 then (some (⟨#[60, 111, 110, 101, 62]⟩ : ByteArray)) else (some (⟨#[60, 116, 119, 111, 62]⟩ : ByteArray))) = some r := h
 clear h
 by_cases c2 : (Int.tmod a0 2) = 0
 ·rw [if_pos c2] at H
  have c2b0 : ((Int.tmod a0 2) == 0) = true := beq_iff_eq.mpr c2
  have c2b1 : ((Int.tmod a0 2) != 0) = false := bne_eq_false_iff_eq.mpr c2
  clear c2
  obtain rfl := Option.some.inj H
  go_enter Tryz.func111, Tryz.ntmps111
  go_wp2
  go_ret
  exact ⟨by first | rfl | (simp; done) | (simp [*]; done), by repeat (first | exact Drawn0.refl _ | apply Drawn0.step)⟩
 ·rw [if_neg c2] at H
  have c2b0 : ((Int.tmod a0 2) == 0) = false := beq_eq_false_iff_ne.mpr c2
  have c2b1 : ((Int.tmod a0 2) != 0) = true := bne_iff_ne.mpr c2
  obtain rfl := Option.some.inj H
  go_enter Tryz.func111, Tryz.ntmps111
  go_wp2
  go_ret
  exact ⟨by first | rfl | (simp; done) | (simp [*]; done), by repeat (first | exact Drawn0.refl _ | apply Drawn0.step)⟩

-- NOT PRINTED: function 89 (crierroom_Room_layAsks)

-- NOT PRINTED: function 21 (crierroom_Room_Asks)

-- NOT PRINTED: function 90 (crierroom_Room_layInts)

-- NOT PRINTED: function 22 (crierroom_Room_Ints)

-- NOT PRINTED: function 91 (crierroom_Room_layTexts)

-- NOT PRINTED: function 23 (crierroom_Room_Texts)

-- NOT PRINTED: function 6 (crierroom_Room_Packet)

/-! ### packet_isKind: function 92 -/
def packet_isKind.f (a0 : Int) : Option (Bool) := if a0 ≥ 1 then (some (decide (a0 ≤ 14))) else (some false)
set_option maxHeartbeats 8000000 in
set_option maxRecDepth 100000 in
theorem packet_isKind.calls (a0 : Int) (r : Bool) (w : World) (h : packet_isKind.f a0 = some r) :
  Calls Tryz.prog 92 #[.int .i64 a0] w fun e w' => e = .returned (.bool r) ∧ Drawn0 w w' := by
 have H : (if a0 ≥ 1 then (some (decide (a0 ≤ 14))) else (some false)) = some r := h
 clear h
 by_cases c2 : a0 ≥ 1
 ·rw [if_pos c2] at H
  have c2b0 : decide (1 ≤ a0) = true := decide_eq_true c2
  clear c2
  obtain rfl := Option.some.inj H
  go_enter Tryz.func92, Tryz.ntmps92
  go_wp2
  go_ret
  exact ⟨by first | rfl | (simp; done) | (simp [*]; done), by repeat (first | exact Drawn0.refl _ | apply Drawn0.step)⟩
 ·rw [if_neg c2] at H
  have c2b0 : decide (1 ≤ a0) = false := decide_eq_false c2
  clear c2
  obtain rfl := Option.some.inj H
  go_enter Tryz.func92, Tryz.ntmps92
  go_wp2
  go_ret
  exact ⟨by first | rfl | (simp; done) | (simp [*]; done), by repeat (first | exact Drawn0.refl _ | apply Drawn0.step)⟩

/-! ### bytes_Equal: function 51 -/
def bytes_Equal.f (l0 : List Int) (l1 : List Int) : Option (Bool) := some ((strOfNums l0).toList == (strOfNums l1).toList)
set_option maxHeartbeats 8000000 in
set_option maxRecDepth 100000 in
theorem bytes_Equal.calls (A0 : Option Addr) (c0 : Nat) (l0 : List Int) (A1 : Option Addr) (c1 : Nat) (l1 : List Int) (r : Bool) (w : World) (hr0 : Kd.C (Kd.int .u8) w A0 l0.length l0) (hc0 : l0.length ≤ c0) (hr1 : Kd.C (Kd.int .u8) w A1 l1.length l1) (hc1 : l1.length ≤ c1) (h : bytes_Equal.f l0 l1 = some r) :
  Calls Tryz.prog 51 #[.slice A0 l0.length c0, .slice A1 l1.length c1] w fun e w' => e = .returned (.bool r) ∧ Drawn0 w w' := by
 have HR0 := Aside0.mk hr0
 have HC0 := Aside0.mk hc0
 clear hr0 hc0
 have HR1 := Aside0.mk hr1
 have HC1 := Aside0.mk hc1
 clear hr1 hc1
 have H : (some ((strOfNums l0).toList == (strOfNums l1).toList)) = some r := h
 clear h
 obtain rfl := Option.some.inj H
 have hcv3 := Kd.C_string (P := Tryz.prog) (A := A0) (c := c0) Tryz.underlying22 Tryz.underlying5 Tryz.underlying9 HR0.out
 have hcv4 := Kd.C_string (P := Tryz.prog) (A := A1) (c := c1) Tryz.underlying22 Tryz.underlying5 Tryz.underlying9 HR1.out
 go_enter Tryz.func51, Tryz.ntmps51
 go_wp2
 go_ret
 exact ⟨by first | rfl | (simp; done) | (simp [*]; done), by repeat (first | exact Drawn0.refl _ | apply Drawn0.step)⟩

/-! ### packet_plainly: function 112 -/
def packet_plainly.f (a0_0 : ByteArray) (l0_1 : List Int) (a0_2 : Int) (a0_3 : Bool) : Option (ByteArray × Int × Bool) := some (a0_0, a0_2, a0_3)
set_option maxHeartbeats 8000000 in
set_option maxRecDepth 100000 in
theorem packet_plainly.calls (a0_0 : ByteArray) (A0_1 : Option Addr) (c0_1 : Nat) (l0_1 : List Int) (a0_2 : Int) (a0_3 : Bool) (r1 : ByteArray) (r2 : Int) (r3 : Bool) (w : World) (hr0_1 : Kd.C (Kd.int .u8) w A0_1 l0_1.length l0_1) (hc0_1 : l0_1.length ≤ c0_1) (h : packet_plainly.f a0_0 l0_1 a0_2 a0_3 = some (r1, r2, r3)) :
  Calls Tryz.prog 112 #[.agg #[.string a0_0, .slice A0_1 l0_1.length c0_1, .int .i64 a0_2, .bool a0_3]] w fun e w' => e = .returned (.agg #[.string r1, .int .i64 r2, .bool r3]) ∧ Below w.heap.size w w' := by
 have hu24 := Tryz.underlying24
 have hu140 := Tryz.underlying140
 have HR0_1 := Aside0.mk hr0_1
 have HC0_1 := Aside0.mk hc0_1
 clear hr0_1 hc0_1
 have HB := Aside0.mk (Below.refl w.heap.size w)
 have H : (some (a0_0, a0_2, a0_3)) = some (r1, r2, r3) := h
 clear h
 simp only [Option.some.injEq, Prod.mk.injEq] at H
 obtain ⟨rfl, rfl, rfl⟩ := H
 go_enter Tryz.func112, Tryz.ntmps112
 go_wp2_with (first | ((with_reducible refine gate_dst (N := 1) rfl ?_); refine box_event ?hg (N := 1) ?hd (cs := #[.string a0_0, .slice A0_1 l0_1.length c0_1, .int .i64 a0_2, .bool a0_3]) (t := 24) ?hr ?_; (case hd => rfl); (case hg => rfl); (case hr => first | (go_simp; done) | (go_simp; rfl)); intro gb181 hg w2 hbox hb; have n0_ := Aside0.mk (below_step (by repeat (with_reducible first | exact HB.out | apply below_alloc | apply pw_below_drewN | apply below_drew1)) hb); have n1_ := Aside0.mk (hbox); have n2_ := Aside0.mk ((by rw [hg]; exact (below_size (by repeat (with_reducible first | exact HB.out | apply below_alloc | apply pw_below_drewN | apply below_drew1))) : w.heap.size ≤ gb181)); have n3_ := Aside0.mk ((by rw [hg]; exact (below_size (by repeat (with_reducible first | exact HB.out | apply below_alloc | apply pw_below_drewN | apply below_drew1))) : w.heap.size ≤ gb181)); clear HB; have HB := n0_; have BK181 := n1_; have GW181 := n2_; have GE181 := n3_; clear n0_ n1_ n2_ n3_; clear hb hbox hg) | ((with_reducible refine gate_dst (N := 2) rfl ?_); refine box_event ?hg (N := 2) ?hd (cs := #[.string (⟨#[]⟩ : ByteArray), .int .i64 0, .bool false]) (t := 140) ?hr ?_; (case hd => rfl); (case hg => rfl); (case hr => first | (go_simp; done) | (go_simp; rfl)); intro gb182 hg w3 hbox hb; have n0_ := Aside0.mk (blk_below (g := gb181) (o := .cells #[.string a0_0, .slice A0_1 l0_1.length c0_1, .int .i64 a0_2, .bool a0_3] 24 (0, 0)) (by (with_reducible repeat (first | refine blk_drewN ?_ _ | refine blk_drew ?_ | refine blk_alloc ?_ _)); exact BK181.out) hb); have n1_ := Aside0.mk (below_step (by repeat (first | (with_reducible first | exact HB.out | apply below_alloc | apply pw_below_drewN | apply below_drew1 | refine below_set ?_ GE181.out) | exact HB.out)) hb); have n2_ := Aside0.mk (hbox); have n3_ := Aside0.mk ((by rw [hg]; exact (below_size (by repeat (first | (with_reducible first | exact HB.out | apply below_alloc | apply pw_below_drewN | apply below_drew1 | refine below_set ?_ GE181.out) | exact HB.out))) : w.heap.size ≤ gb182)); have n4_ := Aside0.mk ((by rw [hg]; exact (below_size (by repeat (first | (with_reducible first | exact HB.out | apply below_alloc | apply pw_below_drewN | apply below_drew1 | refine below_set ?_ GE181.out) | exact HB.out))) : w.heap.size ≤ gb182)); have n5_ := Aside0.mk ((by rw [hg]; exact Nat.ne_of_lt (blk_lt (g := gb181) (o := .cells #[.string a0_0, .slice A0_1 l0_1.length c0_1, .int .i64 a0_2, .bool a0_3] 24 (0, 0)) (by (with_reducible repeat (first | refine blk_drewN ?_ _ | refine blk_drew ?_ | refine blk_alloc ?_ _)); exact BK181.out)) : gb181 ≠ gb182)); have n6_ := Aside0.mk ((by rw [hg]; exact Nat.ne_of_gt (blk_lt (g := gb181) (o := .cells #[.string a0_0, .slice A0_1 l0_1.length c0_1, .int .i64 a0_2, .bool a0_3] 24 (0, 0)) (by (with_reducible repeat (first | refine blk_drewN ?_ _ | refine blk_drew ?_ | refine blk_alloc ?_ _)); exact BK181.out)) : gb182 ≠ gb181)); clear BK181; clear HB; have BK181 := n0_; have HB := n1_; have BK182 := n2_; have GW182 := n3_; have GE182 := n4_; have NB181_182 := n5_; have NB182_181 := n6_; clear n0_ n1_ n2_ n3_ n4_ n5_ n6_; clear hb hbox hg; have hnb4 := NB181_182.out; have hnc4 := NB182_181.out; have hcz5_0 : w3.cell? ⟨gb181, 0, none⟩ = some (.string a0_0) := (blk_cell BK181.out 0).trans rfl; have hcz5_1 : w3.cell? ⟨gb181, 1, none⟩ = some (.slice A0_1 l0_1.length c0_1) := (blk_cell BK181.out 1).trans rfl; have hcz5_2 : w3.cell? ⟨gb181, 2, none⟩ = some (.int .i64 a0_2) := (blk_cell BK181.out 2).trans rfl; have hcz5_3 : w3.cell? ⟨gb181, 3, none⟩ = some (.bool a0_3) := (blk_cell BK181.out 3).trans rfl; have hfz5_0 := blk_frozen BK181.out 0; have hfz5_1 := blk_frozen BK181.out 1; have hfz5_2 := blk_frozen BK181.out 2; have hfz5_3 := blk_frozen BK181.out 3; have hcz6_0 : w3.cell? ⟨gb182, 0, none⟩ = some (.string (⟨#[]⟩ : ByteArray)) := (blk_cell BK182.out 0).trans rfl; have hcz6_1 : w3.cell? ⟨gb182, 1, none⟩ = some (.int .i64 0) := (blk_cell BK182.out 1).trans rfl; have hcz6_2 : w3.cell? ⟨gb182, 2, none⟩ = some (.bool false) := (blk_cell BK182.out 2).trans rfl; have hfz6_0 := blk_frozen BK182.out 0; have hfz6_1 := blk_frozen BK182.out 1; have hfz6_2 := blk_frozen BK182.out 2))
 refine bodyPost_ret (results_cell_row rfl _ _ gb182 140 #[.string a0_0, .int .i64 a0_2, .bool a0_3] (0, 0) _ rfl (by (with_reducible repeat (first | refine blk_drewN ?_ _ | refine blk_drew ?_ | refine blk_alloc ?_ _)); refine blk_put (cs := #[.string a0_0, .int .i64 a0_2, .bool false]) ?_ 2 _ rfl; (with_reducible repeat (first | refine blk_drewN ?_ _ | refine blk_drew ?_ | refine blk_alloc ?_ _)); refine blk_put (cs := #[.string a0_0, .int .i64 0, .bool false]) ?_ 1 _ rfl; (with_reducible repeat (first | refine blk_drewN ?_ _ | refine blk_drew ?_ | refine blk_alloc ?_ _)); refine blk_put (cs := #[.string (⟨#[]⟩ : ByteArray), .int .i64 0, .bool false]) ?_ 0 _ rfl; (with_reducible repeat (first | refine blk_drewN ?_ _ | refine blk_drew ?_ | refine blk_alloc ?_ _)); exact BK182.out) Tryz.underlying140 rfl (by kernel_rfl)) rfl ?_
 exact ⟨by first | rfl | (simp [errW_none, errW_some] <;> rfl) | (simp [*, errW_none, errW_some] <;> rfl), by repeat (first | (with_reducible first | exact HB.out | apply below_alloc | apply pw_below_drewN | apply below_drew1 | refine below_set ?_ GE181.out | refine below_set ?_ GE182.out) | exact HB.out)⟩

end Go.Proofs.YtndhkgfeknkfdaaGreatDoor.MPacketChecks
