/- equality, by walks: crierref15.Same and what it calls. -/
import Derived.Test.YthlhlgomnjeenabEq
import Derived.Deep.RegionHeld3
namespace Go.Proofs.Ythlhlgomnjeenab.Rm
open Go.RowKit Go.Proofs.YthlhlgomnjeenabW.PrintWords Go.Proofs.YthlhlgomnjeenabW.PrintLast Go.Proofs.YthlhlgomnjeenabW.PrintMore Go.Proofs.Ythlhlgomnjeenab.PImageSame
set_option linter.unusedVariables false
set_option linter.unusedSimpArgs false
set_option maxHeartbeats 4000000
set_option maxRecDepth 100000
attribute [local go_sem high] eqA90 eqA66
/-- bytes that are -/
def okB (l : List Int) : Prop := ∀ x ∈ l, 0 ≤ x ∧ x ≤ 255
theorem eqL_eN : ∀ l m : List Int, eqL eN l m = true ↔ l = m
  | [], [] => by simp [eqL]
  | [], _ :: _ => by simp [eqL]
  | _ :: _, [] => by simp [eqL]
  | x :: l, y :: m => by
    rw [eqL, Bool.and_eq_true, eqL_eN l m, eN, beq_iff_eq]
    constructor
    · rintro ⟨rfl, rfl⟩; rfl
    · intro h; injection h with h1 h2; exact ⟨h1, h2⟩
theorem str_inj : ∀ l m : List Int, okB l → okB m → l.map (fun n => UInt8.ofNat n.toNat) = m.map (fun n => UInt8.ofNat n.toNat) → l = m
  | [], [], _, _, _ => rfl
  | [], _ :: _, _, _, h => by simp at h
  | _ :: _, [], _, _, h => by simp at h
  | x :: l, y :: m, h1, h2, h => by
    simp only [List.map_cons, List.cons.injEq] at h
    have hx := h1 x (List.mem_cons_self ..)
    have hy := h2 y (List.mem_cons_self ..)
    have e : x = y := by
      have h3 := congrArg UInt8.toNat h.1
      simp only [UInt8.toNat_ofNat'] at h3
      omega
    rw [e, str_inj l m (fun z hz => h1 z (List.mem_cons_of_mem _ hz)) (fun z hz => h2 z (List.mem_cons_of_mem _ hz)) h.2]
theorem str_eq {l m : List Int} (h1 : okB l) (h2 : okB m) : ((strOfNums l).toList == (strOfNums m).toList) = eqL eN l m := by
  rw [Bool.eq_iff_iff, beq_iff_eq, eqL_eN]
  constructor
  · intro h
    have h3 := bytes_ext h
    exact str_inj l m h1 h2 (by rw [← strOfNums_data, ← strOfNums_data, h3])
  · rintro rfl; rfl
def wM (x : S72) : Prop := okB x.f1
def wF (x : S76) : Prop := wM x.f1
def wS (x : S64) : Prop := (∀ y ∈ x.f2.f1, wF y) ∧ ∀ y ∈ x.f2.f2, wM y
theorem SameMessage_calls (x y : S72) (A1 : Option Addr) (c1 : Nat) (B1 : Option Addr) (d1 : Nat) (w : World) (hr1 : Kd.C (Kd.int .u8) w A1 x.f1.length x.f1) (hc1 : x.f1.length ≤ c1) (hs1 : Kd.C (Kd.int .u8) w B1 y.f1.length y.f1) (hd1 : y.f1.length ≤ d1) (hw0 : wM x) (hw1 : wM y) :
    Calls Try.prog 50 #[.agg #[.string x.f0, .slice A1 x.f1.length c1, .int .i64 x.f2, .bool x.f3], .agg #[.string y.f0, .slice B1 y.f1.length d1, .int .i64 y.f2, .bool y.f3]] w fun e w' => e = .returned (.bool (eM x y)) ∧ Below w.heap.size w w' := by
  have HR1 := Aside0.mk hr1; have HC1 := Aside0.mk hc1; have HS1 := Aside0.mk hs1; have HD1 := Aside0.mk hd1
  have HB := Aside0.mk (Below.refl w.heap.size w)
  clear hr1 hc1 hs1 hd1
  have HST := Aside0.mk (str_eq hw0 hw1); clear hw0 hw1
  cases t0 : (x.f0.toList == y.f0.toList) with
  | false =>
    have HE : Aside0 ((eM x y) = false) := ⟨by unfold eM; rw [t0]; rfl⟩
    have f0_0 : (x.f0.toList != y.f0.toList) = true := by simp only [bne, t0]; rfl
    go_enter Try.func50, Try.ntmps50
    go_wp2_with (first | ((with_reducible refine gate_dst (N := 2) rfl ?_); refine box_event ?hg (N := 2) ?hd (cs := #[.string x.f0, .slice A1 x.f1.length c1, .int .i64 x.f2, .bool x.f3]) (t := 72) ?hr ?_; (case hd => rfl); (case hg => rfl); (case hr => first | (go_simp; done) | (go_simp; rfl)); intro g0 hgg0 w3 hbox hb; clear hgg0; have BX0 := Aside0.mk hbox; have n0_ := Aside0.mk (below_step HB.out hb); clear HB hbox hb; have HB := n0_; clear n0_) | ((with_reducible refine gate_dst (N := 3) rfl ?_); refine box_event ?hg (N := 3) ?hd (cs := #[.string y.f0, .slice B1 y.f1.length d1, .int .i64 y.f2, .bool y.f3]) (t := 72) ?hr ?_; (case hd => rfl); (case hg => rfl); (case hr => first | (go_simp; done) | (go_simp; rfl)); intro g1 hgg1 w4 hbox hb; clear hgg1; have BX1 := Aside0.mk hbox; have n0_ := Aside0.mk (below_step HB.out hb); have n1_ := Aside0.mk (blk_below BX0.out hb); clear HB BX0 hbox hb; have HB := n0_; have BX0 := n1_; clear n0_ n1_; have cv0 := Kd.C_string (P := Try.prog) (A := A1) (c := c1) Try.underlying70 Try.underlying5 Try.underlying9 (Kd.C_below HR1.out HB.out); have cv1 := Kd.C_string (P := Try.prog) (A := B1) (c := d1) Try.underlying70 Try.underlying5 Try.underlying9 (Kd.C_below HS1.out HB.out); have p0 : w4.cell? ⟨g0, 0, none⟩ = _ := (blk_cell BX0.out 0).trans rfl; have q0 : w4.cell? ⟨g1, 0, none⟩ = _ := (blk_cell BX1.out 0).trans rfl; have p1 : w4.cell? ⟨g0, 1, none⟩ = _ := (blk_cell BX0.out 1).trans rfl; have q1 : w4.cell? ⟨g1, 1, none⟩ = _ := (blk_cell BX1.out 1).trans rfl; have p2 : w4.cell? ⟨g0, 2, none⟩ = _ := (blk_cell BX0.out 2).trans rfl; have q2 : w4.cell? ⟨g1, 2, none⟩ = _ := (blk_cell BX1.out 2).trans rfl; have p3 : w4.cell? ⟨g0, 3, none⟩ = _ := (blk_cell BX0.out 3).trans rfl; have q3 : w4.cell? ⟨g1, 3, none⟩ = _ := (blk_cell BX1.out 3).trans rfl))
    go_ret
    exact ⟨by rw [HE.out]; rfl, (by repeat (with_reducible first | exact HB.out | apply below_alloc | apply pw_below_drewN | (refine Below.setCell ?_ HB.out.size _)))⟩
  | true =>
    cases t1 : (x.f2 == y.f2) with
    | false =>
      have HE : Aside0 ((eM x y) = false) := ⟨by unfold eM; rw [t0, t1]; rfl⟩
      have f0_0 : (x.f0.toList != y.f0.toList) = false := by simp only [bne, t0]; rfl
      have f1_0 : (x.f2 != y.f2) = true := by simp only [bne, t1]; rfl
      go_enter Try.func50, Try.ntmps50
      go_wp2_with (first | ((with_reducible refine gate_dst (N := 2) rfl ?_); refine box_event ?hg (N := 2) ?hd (cs := #[.string x.f0, .slice A1 x.f1.length c1, .int .i64 x.f2, .bool x.f3]) (t := 72) ?hr ?_; (case hd => rfl); (case hg => rfl); (case hr => first | (go_simp; done) | (go_simp; rfl)); intro g0 hgg0 w3 hbox hb; clear hgg0; have BX0 := Aside0.mk hbox; have n0_ := Aside0.mk (below_step HB.out hb); clear HB hbox hb; have HB := n0_; clear n0_) | ((with_reducible refine gate_dst (N := 3) rfl ?_); refine box_event ?hg (N := 3) ?hd (cs := #[.string y.f0, .slice B1 y.f1.length d1, .int .i64 y.f2, .bool y.f3]) (t := 72) ?hr ?_; (case hd => rfl); (case hg => rfl); (case hr => first | (go_simp; done) | (go_simp; rfl)); intro g1 hgg1 w4 hbox hb; clear hgg1; have BX1 := Aside0.mk hbox; have n0_ := Aside0.mk (below_step HB.out hb); have n1_ := Aside0.mk (blk_below BX0.out hb); clear HB BX0 hbox hb; have HB := n0_; have BX0 := n1_; clear n0_ n1_; have cv0 := Kd.C_string (P := Try.prog) (A := A1) (c := c1) Try.underlying70 Try.underlying5 Try.underlying9 (Kd.C_below HR1.out HB.out); have cv1 := Kd.C_string (P := Try.prog) (A := B1) (c := d1) Try.underlying70 Try.underlying5 Try.underlying9 (Kd.C_below HS1.out HB.out); have p0 : w4.cell? ⟨g0, 0, none⟩ = _ := (blk_cell BX0.out 0).trans rfl; have q0 : w4.cell? ⟨g1, 0, none⟩ = _ := (blk_cell BX1.out 0).trans rfl; have p1 : w4.cell? ⟨g0, 1, none⟩ = _ := (blk_cell BX0.out 1).trans rfl; have q1 : w4.cell? ⟨g1, 1, none⟩ = _ := (blk_cell BX1.out 1).trans rfl; have p2 : w4.cell? ⟨g0, 2, none⟩ = _ := (blk_cell BX0.out 2).trans rfl; have q2 : w4.cell? ⟨g1, 2, none⟩ = _ := (blk_cell BX1.out 2).trans rfl; have p3 : w4.cell? ⟨g0, 3, none⟩ = _ := (blk_cell BX0.out 3).trans rfl; have q3 : w4.cell? ⟨g1, 3, none⟩ = _ := (blk_cell BX1.out 3).trans rfl))
      go_ret
      exact ⟨by rw [HE.out]; rfl, (by repeat (with_reducible first | exact HB.out | apply below_alloc | apply pw_below_drewN | (refine Below.setCell ?_ HB.out.size _)))⟩
    | true =>
      cases t2 : (x.f3 == y.f3) with
      | false =>
        have HE : Aside0 ((eM x y) = false) := ⟨by unfold eM; rw [t0, t1, t2]; rfl⟩
        have f0_0 : (x.f0.toList != y.f0.toList) = false := by simp only [bne, t0]; rfl
        have f1_0 : (x.f2 != y.f2) = false := by simp only [bne, t1]; rfl
        have f2_0 : decide (x.f3 = y.f3) = false := by simpa using t2
        go_enter Try.func50, Try.ntmps50
        go_wp2_with (first | ((with_reducible refine gate_dst (N := 2) rfl ?_); refine box_event ?hg (N := 2) ?hd (cs := #[.string x.f0, .slice A1 x.f1.length c1, .int .i64 x.f2, .bool x.f3]) (t := 72) ?hr ?_; (case hd => rfl); (case hg => rfl); (case hr => first | (go_simp; done) | (go_simp; rfl)); intro g0 hgg0 w3 hbox hb; clear hgg0; have BX0 := Aside0.mk hbox; have n0_ := Aside0.mk (below_step HB.out hb); clear HB hbox hb; have HB := n0_; clear n0_) | ((with_reducible refine gate_dst (N := 3) rfl ?_); refine box_event ?hg (N := 3) ?hd (cs := #[.string y.f0, .slice B1 y.f1.length d1, .int .i64 y.f2, .bool y.f3]) (t := 72) ?hr ?_; (case hd => rfl); (case hg => rfl); (case hr => first | (go_simp; done) | (go_simp; rfl)); intro g1 hgg1 w4 hbox hb; clear hgg1; have BX1 := Aside0.mk hbox; have n0_ := Aside0.mk (below_step HB.out hb); have n1_ := Aside0.mk (blk_below BX0.out hb); clear HB BX0 hbox hb; have HB := n0_; have BX0 := n1_; clear n0_ n1_; have cv0 := Kd.C_string (P := Try.prog) (A := A1) (c := c1) Try.underlying70 Try.underlying5 Try.underlying9 (Kd.C_below HR1.out HB.out); have cv1 := Kd.C_string (P := Try.prog) (A := B1) (c := d1) Try.underlying70 Try.underlying5 Try.underlying9 (Kd.C_below HS1.out HB.out); have p0 : w4.cell? ⟨g0, 0, none⟩ = _ := (blk_cell BX0.out 0).trans rfl; have q0 : w4.cell? ⟨g1, 0, none⟩ = _ := (blk_cell BX1.out 0).trans rfl; have p1 : w4.cell? ⟨g0, 1, none⟩ = _ := (blk_cell BX0.out 1).trans rfl; have q1 : w4.cell? ⟨g1, 1, none⟩ = _ := (blk_cell BX1.out 1).trans rfl; have p2 : w4.cell? ⟨g0, 2, none⟩ = _ := (blk_cell BX0.out 2).trans rfl; have q2 : w4.cell? ⟨g1, 2, none⟩ = _ := (blk_cell BX1.out 2).trans rfl; have p3 : w4.cell? ⟨g0, 3, none⟩ = _ := (blk_cell BX0.out 3).trans rfl; have q3 : w4.cell? ⟨g1, 3, none⟩ = _ := (blk_cell BX1.out 3).trans rfl))
        go_ret
        exact ⟨by rw [HE.out]; rfl, (by repeat (with_reducible first | exact HB.out | apply below_alloc | apply pw_below_drewN | (refine Below.setCell ?_ HB.out.size _)))⟩
      | true =>
        cases t3 : (eqL eN x.f1 y.f1) with
        | false =>
          have HE : Aside0 ((eM x y) = false) := ⟨by unfold eM; rw [t0, t1, t2, t3]; rfl⟩
          have f0_0 : (x.f0.toList != y.f0.toList) = false := by simp only [bne, t0]; rfl
          have f1_0 : (x.f2 != y.f2) = false := by simp only [bne, t1]; rfl
          have f2_0 : decide (x.f3 = y.f3) = true := by simpa using t2
          have f3_0 : ((strOfNums x.f1).toList == (strOfNums y.f1).toList) = false := by rw [HST.out]; exact t3
          clear t3
          go_enter Try.func50, Try.ntmps50
          go_wp2_with (first | ((with_reducible refine gate_dst (N := 2) rfl ?_); refine box_event ?hg (N := 2) ?hd (cs := #[.string x.f0, .slice A1 x.f1.length c1, .int .i64 x.f2, .bool x.f3]) (t := 72) ?hr ?_; (case hd => rfl); (case hg => rfl); (case hr => first | (go_simp; done) | (go_simp; rfl)); intro g0 hgg0 w3 hbox hb; clear hgg0; have BX0 := Aside0.mk hbox; have n0_ := Aside0.mk (below_step HB.out hb); clear HB hbox hb; have HB := n0_; clear n0_) | ((with_reducible refine gate_dst (N := 3) rfl ?_); refine box_event ?hg (N := 3) ?hd (cs := #[.string y.f0, .slice B1 y.f1.length d1, .int .i64 y.f2, .bool y.f3]) (t := 72) ?hr ?_; (case hd => rfl); (case hg => rfl); (case hr => first | (go_simp; done) | (go_simp; rfl)); intro g1 hgg1 w4 hbox hb; clear hgg1; have BX1 := Aside0.mk hbox; have n0_ := Aside0.mk (below_step HB.out hb); have n1_ := Aside0.mk (blk_below BX0.out hb); clear HB BX0 hbox hb; have HB := n0_; have BX0 := n1_; clear n0_ n1_; have cv0 := Kd.C_string (P := Try.prog) (A := A1) (c := c1) Try.underlying70 Try.underlying5 Try.underlying9 (Kd.C_below HR1.out HB.out); have cv1 := Kd.C_string (P := Try.prog) (A := B1) (c := d1) Try.underlying70 Try.underlying5 Try.underlying9 (Kd.C_below HS1.out HB.out); have p0 : w4.cell? ⟨g0, 0, none⟩ = _ := (blk_cell BX0.out 0).trans rfl; have q0 : w4.cell? ⟨g1, 0, none⟩ = _ := (blk_cell BX1.out 0).trans rfl; have p1 : w4.cell? ⟨g0, 1, none⟩ = _ := (blk_cell BX0.out 1).trans rfl; have q1 : w4.cell? ⟨g1, 1, none⟩ = _ := (blk_cell BX1.out 1).trans rfl; have p2 : w4.cell? ⟨g0, 2, none⟩ = _ := (blk_cell BX0.out 2).trans rfl; have q2 : w4.cell? ⟨g1, 2, none⟩ = _ := (blk_cell BX1.out 2).trans rfl; have p3 : w4.cell? ⟨g0, 3, none⟩ = _ := (blk_cell BX0.out 3).trans rfl; have q3 : w4.cell? ⟨g1, 3, none⟩ = _ := (blk_cell BX1.out 3).trans rfl))
          go_ret
          exact ⟨by rw [HE.out]; rfl, (by repeat (with_reducible first | exact HB.out | apply below_alloc | apply pw_below_drewN | (refine Below.setCell ?_ HB.out.size _)))⟩
        | true =>
          have HE : Aside0 ((eM x y) = true) := ⟨by unfold eM; rw [t0, t1, t2, t3]; rfl⟩
          have f0_0 : (x.f0.toList != y.f0.toList) = false := by simp only [bne, t0]; rfl
          have f1_0 : (x.f2 != y.f2) = false := by simp only [bne, t1]; rfl
          have f2_0 : decide (x.f3 = y.f3) = true := by simpa using t2
          have f3_0 : ((strOfNums x.f1).toList == (strOfNums y.f1).toList) = true := by rw [HST.out]; exact t3
          clear t3
          go_enter Try.func50, Try.ntmps50
          go_wp2_with (first | ((with_reducible refine gate_dst (N := 2) rfl ?_); refine box_event ?hg (N := 2) ?hd (cs := #[.string x.f0, .slice A1 x.f1.length c1, .int .i64 x.f2, .bool x.f3]) (t := 72) ?hr ?_; (case hd => rfl); (case hg => rfl); (case hr => first | (go_simp; done) | (go_simp; rfl)); intro g0 hgg0 w3 hbox hb; clear hgg0; have BX0 := Aside0.mk hbox; have n0_ := Aside0.mk (below_step HB.out hb); clear HB hbox hb; have HB := n0_; clear n0_) | ((with_reducible refine gate_dst (N := 3) rfl ?_); refine box_event ?hg (N := 3) ?hd (cs := #[.string y.f0, .slice B1 y.f1.length d1, .int .i64 y.f2, .bool y.f3]) (t := 72) ?hr ?_; (case hd => rfl); (case hg => rfl); (case hr => first | (go_simp; done) | (go_simp; rfl)); intro g1 hgg1 w4 hbox hb; clear hgg1; have BX1 := Aside0.mk hbox; have n0_ := Aside0.mk (below_step HB.out hb); have n1_ := Aside0.mk (blk_below BX0.out hb); clear HB BX0 hbox hb; have HB := n0_; have BX0 := n1_; clear n0_ n1_; have cv0 := Kd.C_string (P := Try.prog) (A := A1) (c := c1) Try.underlying70 Try.underlying5 Try.underlying9 (Kd.C_below HR1.out HB.out); have cv1 := Kd.C_string (P := Try.prog) (A := B1) (c := d1) Try.underlying70 Try.underlying5 Try.underlying9 (Kd.C_below HS1.out HB.out); have p0 : w4.cell? ⟨g0, 0, none⟩ = _ := (blk_cell BX0.out 0).trans rfl; have q0 : w4.cell? ⟨g1, 0, none⟩ = _ := (blk_cell BX1.out 0).trans rfl; have p1 : w4.cell? ⟨g0, 1, none⟩ = _ := (blk_cell BX0.out 1).trans rfl; have q1 : w4.cell? ⟨g1, 1, none⟩ = _ := (blk_cell BX1.out 1).trans rfl; have p2 : w4.cell? ⟨g0, 2, none⟩ = _ := (blk_cell BX0.out 2).trans rfl; have q2 : w4.cell? ⟨g1, 2, none⟩ = _ := (blk_cell BX1.out 2).trans rfl; have p3 : w4.cell? ⟨g0, 3, none⟩ = _ := (blk_cell BX0.out 3).trans rfl; have q3 : w4.cell? ⟨g1, 3, none⟩ = _ := (blk_cell BX1.out 3).trans rfl))
          go_ret
          exact ⟨by rw [HE.out]; rfl, (by repeat (with_reducible first | exact HB.out | apply below_alloc | apply pw_below_drewN | (refine Below.setCell ?_ HB.out.size _)))⟩
theorem sameMessages_calls (A0 : Option Addr) (c0 : Nat) (l0 : List S72) (A1 : Option Addr) (c1 : Nat) (l1 : List S72) (w : World) (hr0 : Kd.C k72 w A0 l0.length l0) (hc0 : l0.length ≤ c0) (hr1 : Kd.C k72 w A1 l1.length l1) (hc1 : l1.length ≤ c1) (hw0 : ∀ x ∈ l0, wM x) (hw1 : ∀ x ∈ l1, wM x) :
    Calls Try.prog 17 #[.slice A0 l0.length c0, .slice A1 l1.length c1] w fun e w' => e = .returned (.bool (eqL eM l0 l1)) ∧ Below w.heap.size w w' := by
  have HR0 := Aside0.mk hr0; have HR1 := Aside0.mk hr1; have HB := Aside0.mk (Below.refl w.heap.size w); have HC0 := Aside0.mk hc0; have HC1 := Aside0.mk hc1
  have hm0 := hr0.2.1
  clear hr0 hr1 hc0 hc1
  have HW0 := Aside0.mk hw0; have HW1 := Aside0.mk hw1; clear hw0 hw1
  by_cases hlen : l0.length = l1.length
  · have HLEN := Aside0.mk hlen
    have b0 : ((l0.length : Int) == (l1.length : Int)) = true := by simp [hlen]
    have b1 : ((l0.length : Int) != (l1.length : Int)) = false := by simp [hlen]
    have b2 : (l0.length == l1.length) = true := by simp [hlen]
    clear hlen
    go_enter Try.func17, Try.ntmps17
    go_wp2_with fail
    go_loopw [5] (fun i wr => ∃ k : Nat, k ≤ l0.length ∧ i = .int .i64 k ∧ Aside0 (eqL eM (l0.drop k) (l1.drop k) = eqL eM l0 l1) ∧ Aside0 (Below w.heap.size w wr)) (fun i _ => l0.length - (intOf i).toNat)
    case atStart => exact ⟨0, Nat.zero_le _, rfl, ⟨rfl⟩, ⟨(by repeat (with_reducible first | exact HB.out | apply below_alloc | apply pw_below_drewN | (refine Below.setCell ?_ HB.out.size _)))⟩⟩
    case round =>
      clear HB b0 b1 b2
      obtain ⟨k, hk, rfl, HQ, HB⟩ := hrel
      obtain ⟨wo, hwo⟩ : ∃ x, x = wr := ⟨_, rfl⟩; subst hwo
      by_cases hlt : k < l0.length
      · have hlt1 : k < l1.length := by have := HLEN.out; omega
        obtain ⟨ad0, A1, c1, e_, p0, p1, p2, p3, l1_, g1_⟩ := at_T72 HR0.out (k : Int) (by omega) (by omega)
        subst e_
        obtain ⟨x, hx⟩ : ∃ z, z = rd_T72 l0 k := ⟨_, rfl⟩
        rw [← hx, Int.toNat_natCast] at p0 p1 p2 p3
        rw [← hx] at l1_ g1_
        have f0 := pw_cell_below HB.out p0; clear p0
        have f1 := pw_cell_below HB.out p1; clear p1
        have f2 := pw_cell_below HB.out p2; clear p2
        have f3 := pw_cell_below HB.out p3; clear p3
        have LA1 := Aside0.mk l1_; have GA1 := Aside0.mk g1_; clear l1_ g1_
        obtain ⟨ad1, B1, d1, e_, q0, q1, q2, q3, l1_, g1_⟩ := at_T72 HR1.out (k : Int) (by omega) (by omega)
        subst e_
        obtain ⟨y, hy⟩ : ∃ z, z = rd_T72 l1 k := ⟨_, rfl⟩
        rw [← hy, Int.toNat_natCast] at q0 q1 q2 q3
        rw [← hy] at l1_ g1_
        have g0 := pw_cell_below HB.out q0; clear q0
        have g1 := pw_cell_below HB.out q1; clear q1
        have g2 := pw_cell_below HB.out q2; clear q2
        have g3 := pw_cell_below HB.out q3; clear q3
        have LB1 := Aside0.mk l1_; have GB1 := Aside0.mk g1_; clear l1_ g1_
        have hx' := at_k hlt hx; have hy' := at_k hlt1 hy; have HXM := Aside0.mk (List.mem_of_getElem? hx'); have HYM := Aside0.mk (List.mem_of_getElem? hy'); clear hx hy
        have HS := Aside0.mk (eqL_drop (e := eM) hx' hy'); clear hx' hy'
        cases hq : eM x y with
        | false =>
          have HE : Aside0 (eqL eM l0 l1 = false) := ⟨by rw [← HQ.out, HS.out, hq]; rfl⟩
          have HQB := Aside0.mk hq; clear hq HQ HS
          go_wp2_with fail
          go_upto_region 6 with (fail)
          refine wp_region_noPanic ?_
          refine wp_region_held_drew (S := fun W => Below wo.heap.size wo W) (by kernel_rfl) ?hS0 (fun hHeld => ?_)
          case hS0 => exact (Below.refl _ _).drew
          have HG : Aside0 (Below wo.heap.size wo _) := ⟨hHeld⟩
          refine wpAnyH_take (i := 0) (oi := { dst := some 17, op := Go.Op.move (Go.Operand.tmp 0), type := 23, pos := "crierref15.go:419", after := #[], guard := none }) (v := ?v1) rfl (by kernel_rfl) (by kernel_rfl) (by kernel_rfl) (fun _ _ _ h => h) (Or.inl ⟨by rfl, ?hy1⟩) hHeld ?rest1
          case hy1 => (intro w_ hSw; (try dsimp only at hSw); (try go_simp); (try with_reducible rfl))
          try simp only [Act.put, List.setIfInBounds_toArray, List.set_cons_zero, List.set_cons_succ]
          refine wpAnyH_take (i := 1) (oi := { dst := some 18, op := Go.Op.move (Go.Operand.tmp 5), type := 3, pos := "crierref15.go:419", after := #[], guard := none }) (v := ?v2) rfl (by kernel_rfl) (by kernel_rfl) (by kernel_rfl) (fun _ _ _ h => h) (Or.inl ⟨by rfl, ?hy2⟩) hHeld ?rest2
          case hy2 => (intro w_ hSw; (try dsimp only at hSw); (try go_simp); (try with_reducible rfl))
          try simp only [Act.put, List.setIfInBounds_toArray, List.set_cons_zero, List.set_cons_succ]
          refine wpAnyH_take (i := 2) (oi := { dst := some 19, op := Go.Op.indexAddr 23 (Go.Operand.tmp 17) (Go.Operand.tmp 18), type := 0, pos := "crierref15.go:419", after := #[{ on := 0, ground := Go.Ground.data }, { on := 1, ground := Go.Ground.data }], guard := none }) (v := ?v3) rfl (by kernel_rfl) (by kernel_rfl) (by kernel_rfl) (fun _ _ _ h => h) (Or.inl ⟨by rfl, ?hy3⟩) hHeld ?rest3
          case hy3 => (intro w_ hSw; (try dsimp only at hSw); (try go_simp); (try with_reducible rfl))
          try simp only [Act.put, List.setIfInBounds_toArray, List.set_cons_zero, List.set_cons_succ]
          refine wpAnyH_take (i := 3) (oi := { dst := some 20, op := Go.Op.load 72 (Go.Operand.tmp 19), type := 72, pos := "crierref15.go:419", after := #[{ on := 2, ground := Go.Ground.data }], guard := none }) (v := ?v4) rfl (by kernel_rfl) (by kernel_rfl) (by kernel_rfl) (fun _ _ _ h => h) (Or.inl ⟨by rfl, ?hy4⟩) hHeld ?rest4
          case hy4 => (intro w_ hSw; (try dsimp only at hSw); have f0_ := pw_cell_below hSw f0; have f1_ := pw_cell_below hSw f1; have f2_ := pw_cell_below hSw f2; have f3_ := pw_cell_below hSw f3; have g0_ := pw_cell_below hSw g0; have g1_ := pw_cell_below hSw g1; have g2_ := pw_cell_below hSw g2; have g3_ := pw_cell_below hSw g3; (try go_simp); (try with_reducible rfl))
          try simp only [Act.put, List.setIfInBounds_toArray, List.set_cons_zero, List.set_cons_succ]
          refine wpAnyH_take (i := 4) (oi := { dst := some 21, op := Go.Op.move (Go.Operand.tmp 1), type := 23, pos := "crierref15.go:419", after := #[], guard := none }) (v := ?v5) rfl (by kernel_rfl) (by kernel_rfl) (by kernel_rfl) (fun _ _ _ h => h) (Or.inl ⟨by rfl, ?hy5⟩) hHeld ?rest5
          case hy5 => (intro w_ hSw; (try dsimp only at hSw); (try go_simp); (try with_reducible rfl))
          try simp only [Act.put, List.setIfInBounds_toArray, List.set_cons_zero, List.set_cons_succ]
          refine wpAnyH_take (i := 5) (oi := { dst := some 22, op := Go.Op.move (Go.Operand.tmp 5), type := 3, pos := "crierref15.go:419", after := #[], guard := none }) (v := ?v6) rfl (by kernel_rfl) (by kernel_rfl) (by kernel_rfl) (fun _ _ _ h => h) (Or.inl ⟨by rfl, ?hy6⟩) hHeld ?rest6
          case hy6 => (intro w_ hSw; (try dsimp only at hSw); (try go_simp); (try with_reducible rfl))
          try simp only [Act.put, List.setIfInBounds_toArray, List.set_cons_zero, List.set_cons_succ]
          refine wpAnyH_take (i := 6) (oi := { dst := some 23, op := Go.Op.indexAddr 23 (Go.Operand.tmp 21) (Go.Operand.tmp 22), type := 0, pos := "crierref15.go:419", after := #[{ on := 4, ground := Go.Ground.data }, { on := 5, ground := Go.Ground.data }], guard := none }) (v := ?v7) rfl (by kernel_rfl) (by kernel_rfl) (by kernel_rfl) (fun _ _ _ h => h) (Or.inl ⟨by rfl, ?hy7⟩) hHeld ?rest7
          case hy7 => (intro w_ hSw; (try dsimp only at hSw); (try go_simp); (try with_reducible rfl))
          try simp only [Act.put, List.setIfInBounds_toArray, List.set_cons_zero, List.set_cons_succ]
          refine wpAnyH_take (i := 7) (oi := { dst := some 24, op := Go.Op.load 72 (Go.Operand.tmp 23), type := 72, pos := "crierref15.go:419", after := #[{ on := 6, ground := Go.Ground.data }], guard := none }) (v := ?v8) rfl (by kernel_rfl) (by kernel_rfl) (by kernel_rfl) (fun _ _ _ h => h) (Or.inl ⟨by rfl, ?hy8⟩) hHeld ?rest8
          case hy8 => (intro w_ hSw; (try dsimp only at hSw); have f0_ := pw_cell_below hSw f0; have f1_ := pw_cell_below hSw f1; have f2_ := pw_cell_below hSw f2; have f3_ := pw_cell_below hSw f3; have g0_ := pw_cell_below hSw g0; have g1_ := pw_cell_below hSw g1; have g2_ := pw_cell_below hSw g2; have g3_ := pw_cell_below hSw g3; (try go_simp); (try with_reducible rfl))
          try simp only [Act.put, List.setIfInBounds_toArray, List.set_cons_zero, List.set_cons_succ]
          refine wpAnyH_ready (rs := [8]) (by kernel_rfl) (by simp) ?_
          refine AllReadyH.cons (o := { dst := some 25, op := Go.Op.call { callee := Go.Callee.value (Go.Operand.func 50), args := #[Go.Operand.tmp 20, Go.Operand.tmp 24], argTypes := #[72, 72] }, type := 4, pos := "crierref15.go:419", after := #[{ on := 3, ground := Go.Ground.data }, { on := 7, ground := Go.Ground.data }], guard := none }) rfl (fun K hK => ?_) AllReadyH.nil
          go_simp
          refine (SameMessage_calls x y A1 c1 B1 d1 _ (Kd.C_below GA1.out (below_step HB.out HG.out)) LA1.out (Kd.C_below GB1.out (below_step HB.out HG.out)) LB1.out (HW0.out x HXM.out) (HW1.out y HYM.out)).mono ?_
          rintro e w3 ⟨rfl, hb⟩; rw [HQB.out]
          have n0_ := Aside0.mk (below_step HG.out hb); clear HG hb; have HG := n0_; clear n0_
          refine hK.out _ _ HG.out (fun hHeld2 => ?_)
          clear hK K hHeld; have hHeld := hHeld2; clear hHeld2
          try simp only [Act.put, List.setIfInBounds_toArray, List.set_cons_zero, List.set_cons_succ]
          refine wpAnyH_take (i := 9) (oi := { dst := some 26, op := Go.Op.unOp Go.UnOp.not 4 (Go.Operand.tmp 25), type := 4, pos := "crierref15.go:419", after := #[{ on := 8, ground := Go.Ground.data }], guard := none }) (v := ?v10) rfl (by kernel_rfl) (by kernel_rfl) (by kernel_rfl) (fun _ _ _ h => h) (Or.inl ⟨by rfl, ?hy10⟩) hHeld ?rest10
          case hy10 => (intro w_ hSw; (try dsimp only at hSw); (try go_simp); (try with_reducible rfl))
          try simp only [Act.put, List.setIfInBounds_toArray, List.set_cons_zero, List.set_cons_succ]
          refine wpAnyH_done (by kernel_rfl) ?_ _
          refine NoPanic.normal ?_
          have n0_ := Aside0.mk (below_step HB.out HG.out); clear HB HG; have HB := n0_; clear n0_
          go_wp2
          go_ret
          exact ⟨by rw [HE.out]; rfl, HB.out⟩
        | true =>
          have HE : Aside0 (eqL eM (l0.drop (k + 1)) (l1.drop (k + 1)) = eqL eM l0 l1) := ⟨by rw [← HQ.out, HS.out, hq]; rfl⟩
          have HQB := Aside0.mk hq; clear hq HQ HS
          go_wp2_with fail
          go_upto_region 6 with (fail)
          refine wp_region_noPanic ?_
          refine wp_region_held_drew (S := fun W => Below wo.heap.size wo W) (by kernel_rfl) ?hS0 (fun hHeld => ?_)
          case hS0 => exact (Below.refl _ _).drew
          have HG : Aside0 (Below wo.heap.size wo _) := ⟨hHeld⟩
          refine wpAnyH_take (i := 0) (oi := { dst := some 17, op := Go.Op.move (Go.Operand.tmp 0), type := 23, pos := "crierref15.go:419", after := #[], guard := none }) (v := ?v11) rfl (by kernel_rfl) (by kernel_rfl) (by kernel_rfl) (fun _ _ _ h => h) (Or.inl ⟨by rfl, ?hy11⟩) hHeld ?rest11
          case hy11 => (intro w_ hSw; (try dsimp only at hSw); (try go_simp); (try with_reducible rfl))
          try simp only [Act.put, List.setIfInBounds_toArray, List.set_cons_zero, List.set_cons_succ]
          refine wpAnyH_take (i := 1) (oi := { dst := some 18, op := Go.Op.move (Go.Operand.tmp 5), type := 3, pos := "crierref15.go:419", after := #[], guard := none }) (v := ?v12) rfl (by kernel_rfl) (by kernel_rfl) (by kernel_rfl) (fun _ _ _ h => h) (Or.inl ⟨by rfl, ?hy12⟩) hHeld ?rest12
          case hy12 => (intro w_ hSw; (try dsimp only at hSw); (try go_simp); (try with_reducible rfl))
          try simp only [Act.put, List.setIfInBounds_toArray, List.set_cons_zero, List.set_cons_succ]
          refine wpAnyH_take (i := 2) (oi := { dst := some 19, op := Go.Op.indexAddr 23 (Go.Operand.tmp 17) (Go.Operand.tmp 18), type := 0, pos := "crierref15.go:419", after := #[{ on := 0, ground := Go.Ground.data }, { on := 1, ground := Go.Ground.data }], guard := none }) (v := ?v13) rfl (by kernel_rfl) (by kernel_rfl) (by kernel_rfl) (fun _ _ _ h => h) (Or.inl ⟨by rfl, ?hy13⟩) hHeld ?rest13
          case hy13 => (intro w_ hSw; (try dsimp only at hSw); (try go_simp); (try with_reducible rfl))
          try simp only [Act.put, List.setIfInBounds_toArray, List.set_cons_zero, List.set_cons_succ]
          refine wpAnyH_take (i := 3) (oi := { dst := some 20, op := Go.Op.load 72 (Go.Operand.tmp 19), type := 72, pos := "crierref15.go:419", after := #[{ on := 2, ground := Go.Ground.data }], guard := none }) (v := ?v14) rfl (by kernel_rfl) (by kernel_rfl) (by kernel_rfl) (fun _ _ _ h => h) (Or.inl ⟨by rfl, ?hy14⟩) hHeld ?rest14
          case hy14 => (intro w_ hSw; (try dsimp only at hSw); have f0_ := pw_cell_below hSw f0; have f1_ := pw_cell_below hSw f1; have f2_ := pw_cell_below hSw f2; have f3_ := pw_cell_below hSw f3; have g0_ := pw_cell_below hSw g0; have g1_ := pw_cell_below hSw g1; have g2_ := pw_cell_below hSw g2; have g3_ := pw_cell_below hSw g3; (try go_simp); (try with_reducible rfl))
          try simp only [Act.put, List.setIfInBounds_toArray, List.set_cons_zero, List.set_cons_succ]
          refine wpAnyH_take (i := 4) (oi := { dst := some 21, op := Go.Op.move (Go.Operand.tmp 1), type := 23, pos := "crierref15.go:419", after := #[], guard := none }) (v := ?v15) rfl (by kernel_rfl) (by kernel_rfl) (by kernel_rfl) (fun _ _ _ h => h) (Or.inl ⟨by rfl, ?hy15⟩) hHeld ?rest15
          case hy15 => (intro w_ hSw; (try dsimp only at hSw); (try go_simp); (try with_reducible rfl))
          try simp only [Act.put, List.setIfInBounds_toArray, List.set_cons_zero, List.set_cons_succ]
          refine wpAnyH_take (i := 5) (oi := { dst := some 22, op := Go.Op.move (Go.Operand.tmp 5), type := 3, pos := "crierref15.go:419", after := #[], guard := none }) (v := ?v16) rfl (by kernel_rfl) (by kernel_rfl) (by kernel_rfl) (fun _ _ _ h => h) (Or.inl ⟨by rfl, ?hy16⟩) hHeld ?rest16
          case hy16 => (intro w_ hSw; (try dsimp only at hSw); (try go_simp); (try with_reducible rfl))
          try simp only [Act.put, List.setIfInBounds_toArray, List.set_cons_zero, List.set_cons_succ]
          refine wpAnyH_take (i := 6) (oi := { dst := some 23, op := Go.Op.indexAddr 23 (Go.Operand.tmp 21) (Go.Operand.tmp 22), type := 0, pos := "crierref15.go:419", after := #[{ on := 4, ground := Go.Ground.data }, { on := 5, ground := Go.Ground.data }], guard := none }) (v := ?v17) rfl (by kernel_rfl) (by kernel_rfl) (by kernel_rfl) (fun _ _ _ h => h) (Or.inl ⟨by rfl, ?hy17⟩) hHeld ?rest17
          case hy17 => (intro w_ hSw; (try dsimp only at hSw); (try go_simp); (try with_reducible rfl))
          try simp only [Act.put, List.setIfInBounds_toArray, List.set_cons_zero, List.set_cons_succ]
          refine wpAnyH_take (i := 7) (oi := { dst := some 24, op := Go.Op.load 72 (Go.Operand.tmp 23), type := 72, pos := "crierref15.go:419", after := #[{ on := 6, ground := Go.Ground.data }], guard := none }) (v := ?v18) rfl (by kernel_rfl) (by kernel_rfl) (by kernel_rfl) (fun _ _ _ h => h) (Or.inl ⟨by rfl, ?hy18⟩) hHeld ?rest18
          case hy18 => (intro w_ hSw; (try dsimp only at hSw); have f0_ := pw_cell_below hSw f0; have f1_ := pw_cell_below hSw f1; have f2_ := pw_cell_below hSw f2; have f3_ := pw_cell_below hSw f3; have g0_ := pw_cell_below hSw g0; have g1_ := pw_cell_below hSw g1; have g2_ := pw_cell_below hSw g2; have g3_ := pw_cell_below hSw g3; (try go_simp); (try with_reducible rfl))
          try simp only [Act.put, List.setIfInBounds_toArray, List.set_cons_zero, List.set_cons_succ]
          refine wpAnyH_ready (rs := [8]) (by kernel_rfl) (by simp) ?_
          refine AllReadyH.cons (o := { dst := some 25, op := Go.Op.call { callee := Go.Callee.value (Go.Operand.func 50), args := #[Go.Operand.tmp 20, Go.Operand.tmp 24], argTypes := #[72, 72] }, type := 4, pos := "crierref15.go:419", after := #[{ on := 3, ground := Go.Ground.data }, { on := 7, ground := Go.Ground.data }], guard := none }) rfl (fun K hK => ?_) AllReadyH.nil
          go_simp
          refine (SameMessage_calls x y A1 c1 B1 d1 _ (Kd.C_below GA1.out (below_step HB.out HG.out)) LA1.out (Kd.C_below GB1.out (below_step HB.out HG.out)) LB1.out (HW0.out x HXM.out) (HW1.out y HYM.out)).mono ?_
          rintro e w3 ⟨rfl, hb⟩; rw [HQB.out]
          have n0_ := Aside0.mk (below_step HG.out hb); clear HG hb; have HG := n0_; clear n0_
          refine hK.out _ _ HG.out (fun hHeld2 => ?_)
          clear hK K hHeld; have hHeld := hHeld2; clear hHeld2
          try simp only [Act.put, List.setIfInBounds_toArray, List.set_cons_zero, List.set_cons_succ]
          refine wpAnyH_take (i := 9) (oi := { dst := some 26, op := Go.Op.unOp Go.UnOp.not 4 (Go.Operand.tmp 25), type := 4, pos := "crierref15.go:419", after := #[{ on := 8, ground := Go.Ground.data }], guard := none }) (v := ?v20) rfl (by kernel_rfl) (by kernel_rfl) (by kernel_rfl) (fun _ _ _ h => h) (Or.inl ⟨by rfl, ?hy20⟩) hHeld ?rest20
          case hy20 => (intro w_ hSw; (try dsimp only at hSw); (try go_simp); (try with_reducible rfl))
          try simp only [Act.put, List.setIfInBounds_toArray, List.set_cons_zero, List.set_cons_succ]
          refine wpAnyH_done (by kernel_rfl) ?_ _
          refine NoPanic.normal ?_
          have n0_ := Aside0.mk (below_step HB.out HG.out); clear HB HG; have HB := n0_; clear n0_
          go_wp2
          go_roundw
          case rel => exact ⟨k + 1, by omega, by go_num, HE, HB⟩
          case measure => simp [intOf]; omega
      · obtain rfl : k = l0.length := by omega
        have HE : Aside0 (eqL eM l0 l1 = true) := ⟨by rw [← HQ.out]; exact eqL_end HLEN.out⟩
        clear HQ
        go_wp2
        go_ret
        exact ⟨by rw [HE.out]; rfl, HB.out⟩
  · have HE : Aside0 (eqL eM l0 l1 = false) := ⟨eqL_ne hlen⟩
    have b0 : ((l0.length : Int) == (l1.length : Int)) = false := by simp; omega
    have b1 : ((l0.length : Int) != (l1.length : Int)) = true := by simp; omega
    have b2 : (l0.length == l1.length) = false := by simp; omega
    clear hlen
    go_enter Try.func17, Try.ntmps17
    go_wp2
    go_ret
    exact ⟨by rw [HE.out]; rfl, HB.out⟩
section
variable {P : Program} {ops : Array Oper} {o : Oper} {a : Act} {w : World} {K : Act → World → Prop} {Q : Exit → Act → World → Prop} {E : Prop}
theorem al_event {cs : Array Value} {t : TypeId} (hw : Region.wanted o (yielded ops a.tmps) = true) (hrun : (execOp a.eval o).run P w = .ok (.value (.pointer (some ⟨w.heap.size, 0, none⟩))) (w.alloc (.cells cs t (0, 0))))
    (h : ∀ g, g = w.heap.size → ∀ w1, w1.heap[g]? = some (.cells cs t (0, 0)) → Below w.heap.size w w1 → K (a.put o.dst (.pointer (some ⟨g, 0, none⟩))) w1) : if Region.wanted o (yielded ops a.tmps) = true then Oper.wp P o a w K Q else E := by
  rw [if_pos hw]
  unfold Oper.wp
  rw [hrun]
  exact h _ rfl _ (blk_new w _) (below_alloc (Below.refl _ _) _)
theorem st_event (hw : Region.wanted o (yielded ops a.tmps) = true) (hN : o.dst = none) (ty : TypeId) (x y : Operand) (ho : o.op = .store ty x y) (g j : Nat) (hx : a.eval x = .pointer (some ⟨g, j, none⟩)) (t : TypeId) (cs cells : Array Value) (hg : w.heap[g]? = some (.cells cs t (0, 0))) (hy : a.eval y = .agg cells) (hi : (P.info? ty).map (·.size) = some cells.size) (hj : j + cells.size ≤ cs.size) (h1 : cells.toList.all (·.oneCell') = true)
    (h : ∀ w1, w1.heap[g]? = some (.cells (setFrom cs j cells.toList) t (0, 0)) → One w w1 g → K a w1) : if Region.wanted o (yielded ops a.tmps) = true then Oper.wp P o a w K Q else E := by
  rw [if_pos hw]
  refine wp_store_mid ty x y ho g j cells hx hy (fun i hi' => ?_) hi (by rw [← Array.all_toList]; exact h1) ?_
  · refine ⟨?_, blk_frozen hg _⟩
    rw [blk_cell hg, Array.getElem?_eq_getElem (by omega)]
    rfl
  · rw [hN]
    have h2 := setCells_one g cells.toList j w cs t hg
    exact h _ h2.1 h2.2
end
def eW (x y : S62) : Bool := x.f0 == y.f0 && (eqL eF x.f1 y.f1 && eqL eM x.f2 y.f2)
theorem SameWindow_calls (X Y : S62) (A1 : Option Addr) (c1 : Nat) (B1 : Option Addr) (d1 : Nat) (A2 : Option Addr) (c2 : Nat) (B2 : Option Addr) (d2 : Nat) (w : World) (hr1 : k76.C w A1 X.f1.length X.f1) (hc1 : X.f1.length ≤ c1) (hs1 : k76.C w B1 Y.f1.length Y.f1) (hd1 : Y.f1.length ≤ d1) (hr2 : k72.C w A2 X.f2.length X.f2) (hc2 : X.f2.length ≤ c2) (hs2 : k72.C w B2 Y.f2.length Y.f2) (hd2 : Y.f2.length ≤ d2) (hw0 : (∀ z ∈ X.f1, wF z) ∧ ∀ z ∈ X.f2, wM z) (hw1 : (∀ z ∈ Y.f1, wF z) ∧ ∀ z ∈ Y.f2, wM z) :
    Calls Try.prog 49 #[.agg #[.int .i64 X.f0, .slice A1 X.f1.length c1, .slice A2 X.f2.length c2], .agg #[.int .i64 Y.f0, .slice B1 Y.f1.length d1, .slice B2 Y.f2.length d2]] w fun e w' => e = .returned (.bool (eW X Y)) ∧ Below w.heap.size w w' := by
  have hm0 := hr1.2.1
  have HR1 := Aside0.mk hr1; have HC1 := Aside0.mk hc1; have HS1 := Aside0.mk hs1; have HD1 := Aside0.mk hd1; have HR2 := Aside0.mk hr2; have HC2 := Aside0.mk hc2; have HS2 := Aside0.mk hs2; have HD2 := Aside0.mk hd2; have HW0 := Aside0.mk hw0; have HW1 := Aside0.mk hw1; have HB := Aside0.mk (Below.refl w.heap.size w)
  clear hr1 hc1 hs1 hd1 hr2 hc2 hs2 hd2 hw0 hw1
  have hu := Try.underlying76
  cases t0 : (X.f0 == Y.f0) with
  | false =>
    have HE : Aside0 ((eW X Y) = false) := ⟨by unfold eW; rw [t0]; rfl⟩
    have f0_0 : (X.f0 != Y.f0) = true := by simp only [bne, t0]; rfl
    go_enter Try.func49, Try.ntmps49
    go_wp2_with (first | ((with_reducible refine gate_dst (N := 2) rfl ?_); refine box_event ?hg (N := 2) ?hd (cs := #[.int .i64 X.f0, .slice A1 X.f1.length c1, .slice A2 X.f2.length c2]) (t := 62) ?hr ?_; (case hd => rfl); (case hg => rfl); (case hr => first | (go_simp; done) | (go_simp; rfl)); intro ga hgga w3 hbox hb; clear hgga; have BX0 := Aside0.mk hbox; have n0_ := Aside0.mk (below_step HB.out hb); clear HB hbox hb; have HB := n0_; clear n0_) | ((with_reducible refine gate_dst (N := 3) rfl ?_); refine box_event ?hg (N := 3) ?hd (cs := #[.int .i64 Y.f0, .slice B1 Y.f1.length d1, .slice B2 Y.f2.length d2]) (t := 62) ?hr ?_; (case hd => rfl); (case hg => rfl); (case hr => first | (go_simp; done) | (go_simp; rfl)); intro gb hggb w4 hbox hb; clear hggb; have BX1 := Aside0.mk hbox; have n0_ := Aside0.mk (below_step HB.out hb); have n1_ := Aside0.mk (blk_below BX0.out hb); clear HB BX0 hbox hb; have HB := n0_; have BX0 := n1_; clear n0_ n1_; have p0 : w4.cell? ⟨ga, 0, none⟩ = _ := (blk_cell BX0.out 0).trans rfl; have q0 : w4.cell? ⟨gb, 0, none⟩ = _ := (blk_cell BX1.out 0).trans rfl; have p1 : w4.cell? ⟨ga, 1, none⟩ = _ := (blk_cell BX0.out 1).trans rfl; have q1 : w4.cell? ⟨gb, 1, none⟩ = _ := (blk_cell BX1.out 1).trans rfl; have p2 : w4.cell? ⟨ga, 2, none⟩ = _ := (blk_cell BX0.out 2).trans rfl; have q2 : w4.cell? ⟨gb, 2, none⟩ = _ := (blk_cell BX1.out 2).trans rfl))
    go_ret
    exact ⟨by rw [HE.out]; rfl, (by repeat (with_reducible first | exact HB.out | apply below_alloc | apply pw_below_drewN | (refine Below.setCell ?_ HB.out.size _)))⟩
  | true =>
    cases t1 : (decide (X.f1.length = Y.f1.length)) with
    | false =>
      have HE : Aside0 ((eW X Y) = false) := ⟨by unfold eW; rw [eqL_ne (by simpa using t1)]; simp⟩
      have f0_0 : (X.f0 != Y.f0) = false := by simp only [bne, t0]; rfl
      have f1_0 : ((X.f1.length : Int) != (Y.f1.length : Int)) = true := by have h := t1; simp only [decide_eq_true_eq, decide_eq_false_iff_not] at h; simp; omega
      go_enter Try.func49, Try.ntmps49
      go_wp2_with (first | ((with_reducible refine gate_dst (N := 2) rfl ?_); refine box_event ?hg (N := 2) ?hd (cs := #[.int .i64 X.f0, .slice A1 X.f1.length c1, .slice A2 X.f2.length c2]) (t := 62) ?hr ?_; (case hd => rfl); (case hg => rfl); (case hr => first | (go_simp; done) | (go_simp; rfl)); intro ga hgga w3 hbox hb; clear hgga; have BX0 := Aside0.mk hbox; have n0_ := Aside0.mk (below_step HB.out hb); clear HB hbox hb; have HB := n0_; clear n0_) | ((with_reducible refine gate_dst (N := 3) rfl ?_); refine box_event ?hg (N := 3) ?hd (cs := #[.int .i64 Y.f0, .slice B1 Y.f1.length d1, .slice B2 Y.f2.length d2]) (t := 62) ?hr ?_; (case hd => rfl); (case hg => rfl); (case hr => first | (go_simp; done) | (go_simp; rfl)); intro gb hggb w4 hbox hb; clear hggb; have BX1 := Aside0.mk hbox; have n0_ := Aside0.mk (below_step HB.out hb); have n1_ := Aside0.mk (blk_below BX0.out hb); clear HB BX0 hbox hb; have HB := n0_; have BX0 := n1_; clear n0_ n1_; have p0 : w4.cell? ⟨ga, 0, none⟩ = _ := (blk_cell BX0.out 0).trans rfl; have q0 : w4.cell? ⟨gb, 0, none⟩ = _ := (blk_cell BX1.out 0).trans rfl; have p1 : w4.cell? ⟨ga, 1, none⟩ = _ := (blk_cell BX0.out 1).trans rfl; have q1 : w4.cell? ⟨gb, 1, none⟩ = _ := (blk_cell BX1.out 1).trans rfl; have p2 : w4.cell? ⟨ga, 2, none⟩ = _ := (blk_cell BX0.out 2).trans rfl; have q2 : w4.cell? ⟨gb, 2, none⟩ = _ := (blk_cell BX1.out 2).trans rfl))
      go_ret
      exact ⟨by rw [HE.out]; rfl, (by repeat (with_reducible first | exact HB.out | apply below_alloc | apply pw_below_drewN | (refine Below.setCell ?_ HB.out.size _)))⟩
    | true =>
      have f0_0 : (X.f0 != Y.f0) = false := by simp only [bne, t0]; rfl
      have f1_0 : ((X.f1.length : Int) != (Y.f1.length : Int)) = false := by have h := t1; simp only [decide_eq_true_eq, decide_eq_false_iff_not] at h; simp; omega
      go_enter Try.func49, Try.ntmps49
      have HLEN : Aside0 (X.f1.length = Y.f1.length) := ⟨by simpa using t1⟩; have HT0 := Aside0.mk t0; clear t0 t1
      go_wp2_with (first | ((with_reducible refine gate_dst (N := 2) rfl ?_); refine box_event ?hg (N := 2) ?hd (cs := #[.int .i64 X.f0, .slice A1 X.f1.length c1, .slice A2 X.f2.length c2]) (t := 62) ?hr ?_; (case hd => rfl); (case hg => rfl); (case hr => first | (go_simp; done) | (go_simp; rfl)); intro ga hgga w3 hbox hb; clear hgga; have BX0 := Aside0.mk hbox; have n0_ := Aside0.mk (below_step HB.out hb); clear HB hbox hb; have HB := n0_; clear n0_) | ((with_reducible refine gate_dst (N := 3) rfl ?_); refine box_event ?hg (N := 3) ?hd (cs := #[.int .i64 Y.f0, .slice B1 Y.f1.length d1, .slice B2 Y.f2.length d2]) (t := 62) ?hr ?_; (case hd => rfl); (case hg => rfl); (case hr => first | (go_simp; done) | (go_simp; rfl)); intro gb hggb w4 hbox hb; clear hggb; have BX1 := Aside0.mk hbox; have n0_ := Aside0.mk (below_step HB.out hb); have n1_ := Aside0.mk (blk_below BX0.out hb); clear HB BX0 hbox hb; have HB := n0_; have BX0 := n1_; clear n0_ n1_; have p0 : w4.cell? ⟨ga, 0, none⟩ = _ := (blk_cell BX0.out 0).trans rfl; have q0 : w4.cell? ⟨gb, 0, none⟩ = _ := (blk_cell BX1.out 0).trans rfl; have p1 : w4.cell? ⟨ga, 1, none⟩ = _ := (blk_cell BX0.out 1).trans rfl; have q1 : w4.cell? ⟨gb, 1, none⟩ = _ := (blk_cell BX1.out 1).trans rfl; have p2 : w4.cell? ⟨ga, 2, none⟩ = _ := (blk_cell BX0.out 2).trans rfl; have q2 : w4.cell? ⟨gb, 2, none⟩ = _ := (blk_cell BX1.out 2).trans rfl))
      go_loopw [5] (fun i wr => ∃ k : Nat, k ≤ X.f1.length ∧ i = .int .i64 k ∧ Aside0 (eqL eF (X.f1.drop k) (Y.f1.drop k) = eqL eF X.f1 Y.f1) ∧ Aside0 (Below w.heap.size w wr) ∧ Aside0 (wr.heap[ga]? = some (.cells #[.int .i64 X.f0, .slice A1 X.f1.length c1, .slice A2 X.f2.length c2] 62 (0, 0))) ∧ Aside0 (wr.heap[gb]? = some (.cells #[.int .i64 Y.f0, .slice B1 Y.f1.length d1, .slice B2 Y.f2.length d2] 62 (0, 0)))) (fun i _ => X.f1.length - (intOf i).toNat)
      case atStart => exact ⟨0, Nat.zero_le _, rfl, ⟨rfl⟩, HB, BX0, BX1⟩
      case round =>
        clear HB BX0 BX1 p0 q0 p1 q1 p2 q2
        obtain ⟨k, hk, rfl, HQ, HB, BX0, BX1⟩ := hrel
        obtain ⟨wo, hwo⟩ : ∃ x, x = wr := ⟨_, rfl⟩; subst hwo
        have p0 : wo.cell? ⟨ga, 0, none⟩ = _ := (blk_cell BX0.out 0).trans rfl; have q0 : wo.cell? ⟨gb, 0, none⟩ = _ := (blk_cell BX1.out 0).trans rfl; have p1 : wo.cell? ⟨ga, 1, none⟩ = _ := (blk_cell BX0.out 1).trans rfl; have q1 : wo.cell? ⟨gb, 1, none⟩ = _ := (blk_cell BX1.out 1).trans rfl; have p2 : wo.cell? ⟨ga, 2, none⟩ = _ := (blk_cell BX0.out 2).trans rfl; have q2 : wo.cell? ⟨gb, 2, none⟩ = _ := (blk_cell BX1.out 2).trans rfl
        by_cases hlt : k < X.f1.length
        · have hlt1 : k < Y.f1.length := by have := HLEN.out; omega
          obtain ⟨ad0, E2, e2, e_, r0, r1, r2, r3, r4, r5, l2_, g2_⟩ := at_T76 HR1.out (k : Int) (by omega) (by omega)
          obtain ⟨x, hx⟩ : ∃ z, z = rd_T76 (X.f1) k := ⟨_, rfl⟩
          rw [← hx, Int.toNat_natCast] at r0 r1 r2 r3 r4 r5
          rw [← hx] at l2_ g2_
          have f0 := pw_cell_below HB.out r0; clear r0
          have f1 := pw_cell_below HB.out r1; clear r1
          have f2 := pw_cell_below HB.out r2; clear r2
          have f3 := pw_cell_below HB.out r3; clear r3
          have f4 := pw_cell_below HB.out r4; clear r4
          have f5 := pw_cell_below HB.out r5; clear r5
          have LE2 := Aside0.mk l2_; have GE2 := Aside0.mk g2_; clear l2_ g2_
          subst e_
          obtain ⟨ad1, F2, u2, e_, s0, s1, s2, s3, s4, s5, l2_, g2_⟩ := at_T76 HS1.out (k : Int) (by omega) (by omega)
          obtain ⟨y, hy⟩ : ∃ z, z = rd_T76 (Y.f1) k := ⟨_, rfl⟩
          rw [← hy, Int.toNat_natCast] at s0 s1 s2 s3 s4 s5
          rw [← hy] at l2_ g2_
          have g0 := pw_cell_below HB.out s0; clear s0
          have g1 := pw_cell_below HB.out s1; clear s1
          have g2 := pw_cell_below HB.out s2; clear s2
          have g3 := pw_cell_below HB.out s3; clear s3
          have g4 := pw_cell_below HB.out s4; clear s4
          have g5 := pw_cell_below HB.out s5; clear s5
          have LF2 := Aside0.mk l2_; have GF2 := Aside0.mk g2_; clear l2_ g2_
          subst e_
          have hx' := at_k hlt hx; have hy' := at_k hlt1 hy; have HXM := Aside0.mk (List.mem_of_getElem? hx'); have HYM := Aside0.mk (List.mem_of_getElem? hy'); clear hx hy
          have HS := Aside0.mk (eqL_drop (e := eF) hx' hy'); clear hx' hy'
          cases hq : eF x y with
          | false =>
            have HE : Aside0 (eqL eF X.f1 Y.f1 = false) := ⟨by rw [← HQ.out, HS.out, hq]; rfl⟩
            clear HQ HS
            go_upto_region 6 with (fail)
            go_cut [6, 7] (fun v6 v7 wc => ∃ g6 g7 : Nat, v6 = .pointer (some ⟨g6, 0, none⟩) ∧ v7 = .pointer (some ⟨g7, 0, none⟩) ∧ Aside0 (Below wo.heap.size wo wc) ∧ Aside0 (wc.heap[g6]? = some (.cells #[.int .i64 x.f0, .string x.f1.f0, .slice E2 x.f1.f1.length e2, .int .i64 x.f1.f2, .bool x.f1.f3, .bool x.f2] 76 (0, 0))) ∧ Aside0 (wc.heap[g7]? = some (.cells #[.int .i64 y.f0, .string y.f1.f0, .slice F2 y.f1.f1.length u2, .int .i64 y.f1.f2, .bool y.f1.f3, .bool y.f2] 76 (0, 0))))
            case first =>
              refine wp_region_noPanic ?_
              refine wp_region_held_drew (S := fun W => Below wo.heap.size wo W) (by kernel_rfl) ?hS0 (fun hHeld => ?_)
              case hS0 => exact (Below.refl _ _).drew
              have HG : Aside0 (Below wo.heap.size wo _) := ⟨hHeld⟩
              refine wpAnyH_take (i := 0) (oi := { dst := some 29, op := Go.Op.fieldAddr 62 (Go.Operand.tmp 2) 1, type := 0, pos := "crierref15.go:432", after := #[], guard := none }) (v := ?v21) rfl (by kernel_rfl) (by kernel_rfl) (by kernel_rfl) (fun _ _ _ h => h) (Or.inl ⟨by rfl, ?hy21⟩) hHeld ?rest21
              case hy21 => (intro w_ hSw; (try dsimp only at hSw); (try go_simp); (try with_reducible rfl))
              try simp only [Act.put, List.setIfInBounds_toArray, List.set_cons_zero, List.set_cons_succ]
              refine wpAnyH_take (i := 1) (oi := { dst := some 30, op := Go.Op.load 60 (Go.Operand.tmp 29), type := 60, pos := "crierref15.go:432", after := #[{ on := 0, ground := Go.Ground.data }], guard := none }) (v := ?v22) rfl (by kernel_rfl) (by kernel_rfl) (by kernel_rfl) (fun _ _ _ h => h) (Or.inl ⟨by rfl, ?hy22⟩) hHeld ?rest22
              case hy22 => (intro w_ hSw; (try dsimp only at hSw); have f0_ := pw_cell_below hSw f0; have f1_ := pw_cell_below hSw f1; have f2_ := pw_cell_below hSw f2; have f3_ := pw_cell_below hSw f3; have f4_ := pw_cell_below hSw f4; have f5_ := pw_cell_below hSw f5; have g0_ := pw_cell_below hSw g0; have g1_ := pw_cell_below hSw g1; have g2_ := pw_cell_below hSw g2; have g3_ := pw_cell_below hSw g3; have g4_ := pw_cell_below hSw g4; have g5_ := pw_cell_below hSw g5; have p1_ := pw_cell_below hSw p1; have q1_ := pw_cell_below hSw q1; (try go_simp); (try with_reducible rfl))
              try simp only [Act.put, List.setIfInBounds_toArray, List.set_cons_zero, List.set_cons_succ]
              refine wpAnyH_take (i := 2) (oi := { dst := some 31, op := Go.Op.move (Go.Operand.tmp 5), type := 3, pos := "crierref15.go:432", after := #[], guard := none }) (v := ?v23) rfl (by kernel_rfl) (by kernel_rfl) (by kernel_rfl) (fun _ _ _ h => h) (Or.inl ⟨by rfl, ?hy23⟩) hHeld ?rest23
              case hy23 => (intro w_ hSw; (try dsimp only at hSw); (try go_simp); (try with_reducible rfl))
              try simp only [Act.put, List.setIfInBounds_toArray, List.set_cons_zero, List.set_cons_succ]
              refine wpAnyH_take (i := 3) (oi := { dst := some 32, op := Go.Op.indexAddr 60 (Go.Operand.tmp 30) (Go.Operand.tmp 31), type := 0, pos := "crierref15.go:432", after := #[{ on := 1, ground := Go.Ground.data }, { on := 2, ground := Go.Ground.data }], guard := none }) (v := ?v24) rfl (by kernel_rfl) (by kernel_rfl) (by kernel_rfl) (fun _ _ _ h => h) (Or.inl ⟨by rfl, ?hy24⟩) hHeld ?rest24
              case hy24 => (intro w_ hSw; (try dsimp only at hSw); (try go_simp); (try with_reducible rfl))
              try simp only [Act.put, List.setIfInBounds_toArray, List.set_cons_zero, List.set_cons_succ]
              refine wpAnyH_take (i := 4) (oi := { dst := some 33, op := Go.Op.load 76 (Go.Operand.tmp 32), type := 76, pos := "crierref15.go:432", after := #[{ on := 3, ground := Go.Ground.data }], guard := none }) (v := ?v25) rfl (by kernel_rfl) (by kernel_rfl) (by kernel_rfl) (fun _ _ _ h => h) (Or.inl ⟨by rfl, ?hy25⟩) hHeld ?rest25
              case hy25 => (intro w_ hSw; (try dsimp only at hSw); have f0_ := pw_cell_below hSw f0; have f1_ := pw_cell_below hSw f1; have f2_ := pw_cell_below hSw f2; have f3_ := pw_cell_below hSw f3; have f4_ := pw_cell_below hSw f4; have f5_ := pw_cell_below hSw f5; have g0_ := pw_cell_below hSw g0; have g1_ := pw_cell_below hSw g1; have g2_ := pw_cell_below hSw g2; have g3_ := pw_cell_below hSw g3; have g4_ := pw_cell_below hSw g4; have g5_ := pw_cell_below hSw g5; have p1_ := pw_cell_below hSw p1; have q1_ := pw_cell_below hSw q1; (try go_simp); (try with_reducible rfl))
              try simp only [Act.put, List.setIfInBounds_toArray, List.set_cons_zero, List.set_cons_succ]
              refine wpAnyH_take (i := 5) (oi := { dst := some 34, op := Go.Op.fieldAddr 62 (Go.Operand.tmp 3) 1, type := 0, pos := "crierref15.go:432", after := #[{ on := 12, ground := Go.Ground.gcOnly Go.Departure.lateStores }], guard := none }) (v := ?v26) rfl (by kernel_rfl) (by kernel_rfl) (by kernel_rfl) (fun _ _ _ h => h) (Or.inl ⟨by rfl, ?hy26⟩) hHeld ?rest26
              case hy26 => (intro w_ hSw; (try dsimp only at hSw); (try go_simp); (try with_reducible rfl))
              try simp only [Act.put, List.setIfInBounds_toArray, List.set_cons_zero, List.set_cons_succ]
              refine wpAnyH_take (i := 6) (oi := { dst := some 35, op := Go.Op.load 60 (Go.Operand.tmp 34), type := 60, pos := "crierref15.go:432", after := #[{ on := 5, ground := Go.Ground.data }, { on := 12, ground := Go.Ground.gcOnly Go.Departure.lateStores }], guard := none }) (v := ?v27) rfl (by kernel_rfl) (by kernel_rfl) (by kernel_rfl) (fun _ _ _ h => h) (Or.inl ⟨by rfl, ?hy27⟩) hHeld ?rest27
              case hy27 => (intro w_ hSw; (try dsimp only at hSw); have f0_ := pw_cell_below hSw f0; have f1_ := pw_cell_below hSw f1; have f2_ := pw_cell_below hSw f2; have f3_ := pw_cell_below hSw f3; have f4_ := pw_cell_below hSw f4; have f5_ := pw_cell_below hSw f5; have g0_ := pw_cell_below hSw g0; have g1_ := pw_cell_below hSw g1; have g2_ := pw_cell_below hSw g2; have g3_ := pw_cell_below hSw g3; have g4_ := pw_cell_below hSw g4; have g5_ := pw_cell_below hSw g5; have p1_ := pw_cell_below hSw p1; have q1_ := pw_cell_below hSw q1; (try go_simp); (try with_reducible rfl))
              try simp only [Act.put, List.setIfInBounds_toArray, List.set_cons_zero, List.set_cons_succ]
              refine wpAnyH_take (i := 7) (oi := { dst := some 36, op := Go.Op.move (Go.Operand.tmp 5), type := 3, pos := "crierref15.go:432", after := #[{ on := 12, ground := Go.Ground.gcOnly Go.Departure.lateStores }], guard := none }) (v := ?v28) rfl (by kernel_rfl) (by kernel_rfl) (by kernel_rfl) (fun _ _ _ h => h) (Or.inl ⟨by rfl, ?hy28⟩) hHeld ?rest28
              case hy28 => (intro w_ hSw; (try dsimp only at hSw); (try go_simp); (try with_reducible rfl))
              try simp only [Act.put, List.setIfInBounds_toArray, List.set_cons_zero, List.set_cons_succ]
              refine wpAnyH_take (i := 8) (oi := { dst := some 37, op := Go.Op.indexAddr 60 (Go.Operand.tmp 35) (Go.Operand.tmp 36), type := 0, pos := "crierref15.go:432", after := #[{ on := 6, ground := Go.Ground.data }, { on := 7, ground := Go.Ground.data }, { on := 12, ground := Go.Ground.gcOnly Go.Departure.lateStores }], guard := none }) (v := ?v29) rfl (by kernel_rfl) (by kernel_rfl) (by kernel_rfl) (fun _ _ _ h => h) (Or.inl ⟨by rfl, ?hy29⟩) hHeld ?rest29
              case hy29 => (intro w_ hSw; (try dsimp only at hSw); (try go_simp); (try with_reducible rfl))
              try simp only [Act.put, List.setIfInBounds_toArray, List.set_cons_zero, List.set_cons_succ]
              refine wpAnyH_take (i := 9) (oi := { dst := some 38, op := Go.Op.load 76 (Go.Operand.tmp 37), type := 76, pos := "crierref15.go:432", after := #[{ on := 8, ground := Go.Ground.data }, { on := 12, ground := Go.Ground.gcOnly Go.Departure.lateStores }], guard := none }) (v := ?v30) rfl (by kernel_rfl) (by kernel_rfl) (by kernel_rfl) (fun _ _ _ h => h) (Or.inl ⟨by rfl, ?hy30⟩) hHeld ?rest30
              case hy30 => (intro w_ hSw; (try dsimp only at hSw); have f0_ := pw_cell_below hSw f0; have f1_ := pw_cell_below hSw f1; have f2_ := pw_cell_below hSw f2; have f3_ := pw_cell_below hSw f3; have f4_ := pw_cell_below hSw f4; have f5_ := pw_cell_below hSw f5; have g0_ := pw_cell_below hSw g0; have g1_ := pw_cell_below hSw g1; have g2_ := pw_cell_below hSw g2; have g3_ := pw_cell_below hSw g3; have g4_ := pw_cell_below hSw g4; have g5_ := pw_cell_below hSw g5; have p1_ := pw_cell_below hSw p1; have q1_ := pw_cell_below hSw q1; (try go_simp); (try with_reducible rfl))
              try simp only [Act.put, List.setIfInBounds_toArray, List.set_cons_zero, List.set_cons_succ]
              refine wpAnyH_ready (rs := [10, 11]) (by kernel_rfl) (by simp) ?_
              refine AllReadyH.cons (o := { dst := some 6, op := Go.Op.alloc 76, type := 0, pos := "crierref15.go:432", after := #[], guard := none }) rfl (fun K hK => ?w10_30) (AllReadyH.cons (o := { dst := some 7, op := Go.Op.alloc 76, type := 0, pos := "crierref15.go:432", after := #[], guard := none }) rfl (fun K hK => ?w11_30) (AllReadyH.nil))
              case w10_30 =>
                refine al_event (cs := #[.int .i64 0, .string ⟨#[]⟩, .slice none 0 0, .int .i64 0, .bool false, .bool false]) (t := 76) (by rfl) ?hr31 (fun g6 hg w31_ hbox hb => ?_)
                case hr31 => (first | (go_simp; done) | (go_simp; rfl))
                have GE6 := Aside0.mk (show wo.heap.size ≤ g6 by rw [hg]; exact HG.out.size)
                have BB6 := Aside0.mk hbox; have n0_ := Aside0.mk (below_step HG.out hb); clear HG hg hbox hb; have HG := n0_; clear n0_
                refine hK.out _ _ HG.out (fun hHeld2 => ?_)
                clear hK K hHeld; have hHeld := hHeld2; clear hHeld2
                try simp only [Act.put, List.setIfInBounds_toArray, List.set_cons_zero, List.set_cons_succ]
                refine wpAnyH_ready (rs := [11]) (by kernel_rfl) (by simp) ?_
                refine AllReadyH.cons (o := { dst := some 7, op := Go.Op.alloc 76, type := 0, pos := "crierref15.go:432", after := #[], guard := none }) rfl (fun K hK => ?_) AllReadyH.nil
                refine al_event (cs := #[.int .i64 0, .string ⟨#[]⟩, .slice none 0 0, .int .i64 0, .bool false, .bool false]) (t := 76) (by rfl) ?hr32 (fun g7 hg w32_ hbox hb => ?_)
                case hr32 => (first | (go_simp; done) | (go_simp; rfl))
                have GE7 := Aside0.mk (show wo.heap.size ≤ g7 by rw [hg]; exact HG.out.size)
                have NE := Aside0.mk (show g6 ≠ g7 by rw [hg]; exact Nat.ne_of_lt (blk_lt BB6.out)); have n1_ := Aside0.mk (blk_below BB6.out hb); clear BB6; have BB6 := n1_; clear n1_
                have BB7 := Aside0.mk hbox; have n0_ := Aside0.mk (below_step HG.out hb); clear HG hg hbox hb; have HG := n0_; clear n0_
                refine hK.out _ _ HG.out (fun hHeld2 => ?_)
                clear hK K hHeld; have hHeld := hHeld2; clear hHeld2
                try simp only [Act.put, List.setIfInBounds_toArray, List.set_cons_zero, List.set_cons_succ]
                refine wpAnyH_ready (rs := [12]) (by kernel_rfl) (by simp) ?_
                refine AllReadyH.cons (o := { dst := none, op := Go.Op.store 76 (Go.Operand.tmp 6) (Go.Operand.tmp 33), type := 0, pos := "crierref15.go:432", after := #[{ on := 10, ground := Go.Ground.data }, { on := 4, ground := Go.Ground.data }, { on := 0, ground := Go.Ground.phase }, { on := 1, ground := Go.Ground.phase }, { on := 2, ground := Go.Ground.phase }, { on := 3, ground := Go.Ground.phase }, { on := 4, ground := Go.Ground.phase }, { on := 5, ground := Go.Ground.textOnly Go.Departure.lateStores }, { on := 6, ground := Go.Ground.textOnly Go.Departure.lateStores }, { on := 7, ground := Go.Ground.textOnly Go.Departure.lateStores }, { on := 8, ground := Go.Ground.textOnly Go.Departure.lateStores }, { on := 9, ground := Go.Ground.textOnly Go.Departure.lateStores }, { on := 10, ground := Go.Ground.phase }, { on := 11, ground := Go.Ground.phase }], guard := none }) rfl (fun K hK => ?_) AllReadyH.nil
                refine st_event (by rfl) rfl 76 (.tmp 6) (.tmp 33) rfl g6 0 rfl 76 _ _ BB6.out rfl (by kernel_rfl) (Nat.le_of_ble_eq_true rfl) rfl (fun w33_ hx hk => ?_)
                have n0_ : Aside0 (w33_.heap[g6]? = some (.cells #[.int .i64 x.f0, .string x.f1.f0, .slice E2 x.f1.f1.length e2, .int .i64 x.f1.f2, .bool x.f1.f3, .bool x.f2] 76 (0, 0))) := ⟨hx⟩; have n1_ := Aside0.mk (hk.below HG.out GE6.out)
                have n2_ := Aside0.mk ((hk.keep g7 (by first | exact NE.out | exact Ne.symm NE.out)).trans BB7.out); clear BB7; have BB7 := n2_; clear n2_
                clear BB6 HG hx hk; have BB6 := n0_; have HG := n1_; clear n0_ n1_
                refine hK.out _ _ HG.out (fun hHeld2 => ?_)
                clear hK K hHeld; have hHeld := hHeld2; clear hHeld2
                try simp only [Act.put, List.setIfInBounds_toArray, List.set_cons_zero, List.set_cons_succ]
                refine wpAnyH_ready (rs := [13]) (by kernel_rfl) (by simp) ?_
                refine AllReadyH.cons (o := { dst := none, op := Go.Op.store 76 (Go.Operand.tmp 7) (Go.Operand.tmp 38), type := 0, pos := "crierref15.go:432", after := #[{ on := 11, ground := Go.Ground.data }, { on := 9, ground := Go.Ground.data }, { on := 12, ground := Go.Ground.chain }, { on := 0, ground := Go.Ground.phase }, { on := 1, ground := Go.Ground.phase }, { on := 2, ground := Go.Ground.phase }, { on := 3, ground := Go.Ground.phase }, { on := 4, ground := Go.Ground.phase }, { on := 5, ground := Go.Ground.phase }, { on := 6, ground := Go.Ground.phase }, { on := 7, ground := Go.Ground.phase }, { on := 8, ground := Go.Ground.phase }, { on := 9, ground := Go.Ground.phase }, { on := 10, ground := Go.Ground.phase }, { on := 11, ground := Go.Ground.phase }, { on := 12, ground := Go.Ground.phase }], guard := none }) rfl (fun K hK => ?_) AllReadyH.nil
                refine st_event (by rfl) rfl 76 (.tmp 7) (.tmp 38) rfl g7 0 rfl 76 _ _ BB7.out rfl (by kernel_rfl) (Nat.le_of_ble_eq_true rfl) rfl (fun w34_ hx hk => ?_)
                have n0_ : Aside0 (w34_.heap[g7]? = some (.cells #[.int .i64 y.f0, .string y.f1.f0, .slice F2 y.f1.f1.length u2, .int .i64 y.f1.f2, .bool y.f1.f3, .bool y.f2] 76 (0, 0))) := ⟨hx⟩; have n1_ := Aside0.mk (hk.below HG.out GE7.out)
                have n2_ := Aside0.mk ((hk.keep g6 (by first | exact NE.out | exact Ne.symm NE.out)).trans BB6.out); clear BB6; have BB6 := n2_; clear n2_
                clear BB7 HG hx hk; have BB7 := n0_; have HG := n1_; clear n0_ n1_
                refine hK.out _ _ HG.out (fun hHeld2 => ?_)
                clear hK K hHeld; have hHeld := hHeld2; clear hHeld2
                try simp only [Act.put, List.setIfInBounds_toArray, List.set_cons_zero, List.set_cons_succ]
                refine wpAnyH_done (by kernel_rfl) ?_ _
                refine NoPanic.normal ?_
                try go_wp2
                go_meet
                case rel => exact ⟨g6, g7, rfl, rfl, HG, BB6, BB7⟩
              case w11_30 =>
                refine al_event (cs := #[.int .i64 0, .string ⟨#[]⟩, .slice none 0 0, .int .i64 0, .bool false, .bool false]) (t := 76) (by rfl) ?hr35 (fun g7 hg w35_ hbox hb => ?_)
                case hr35 => (first | (go_simp; done) | (go_simp; rfl))
                have GE7 := Aside0.mk (show wo.heap.size ≤ g7 by rw [hg]; exact HG.out.size)
                have BB7 := Aside0.mk hbox; have n0_ := Aside0.mk (below_step HG.out hb); clear HG hg hbox hb; have HG := n0_; clear n0_
                refine hK.out _ _ HG.out (fun hHeld2 => ?_)
                clear hK K hHeld; have hHeld := hHeld2; clear hHeld2
                try simp only [Act.put, List.setIfInBounds_toArray, List.set_cons_zero, List.set_cons_succ]
                refine wpAnyH_ready (rs := [10]) (by kernel_rfl) (by simp) ?_
                refine AllReadyH.cons (o := { dst := some 6, op := Go.Op.alloc 76, type := 0, pos := "crierref15.go:432", after := #[], guard := none }) rfl (fun K hK => ?_) AllReadyH.nil
                refine al_event (cs := #[.int .i64 0, .string ⟨#[]⟩, .slice none 0 0, .int .i64 0, .bool false, .bool false]) (t := 76) (by rfl) ?hr36 (fun g6 hg w36_ hbox hb => ?_)
                case hr36 => (first | (go_simp; done) | (go_simp; rfl))
                have GE6 := Aside0.mk (show wo.heap.size ≤ g6 by rw [hg]; exact HG.out.size)
                have NE := Aside0.mk (show g7 ≠ g6 by rw [hg]; exact Nat.ne_of_lt (blk_lt BB7.out)); have n1_ := Aside0.mk (blk_below BB7.out hb); clear BB7; have BB7 := n1_; clear n1_
                have BB6 := Aside0.mk hbox; have n0_ := Aside0.mk (below_step HG.out hb); clear HG hg hbox hb; have HG := n0_; clear n0_
                refine hK.out _ _ HG.out (fun hHeld2 => ?_)
                clear hK K hHeld; have hHeld := hHeld2; clear hHeld2
                try simp only [Act.put, List.setIfInBounds_toArray, List.set_cons_zero, List.set_cons_succ]
                refine wpAnyH_ready (rs := [12]) (by kernel_rfl) (by simp) ?_
                refine AllReadyH.cons (o := { dst := none, op := Go.Op.store 76 (Go.Operand.tmp 6) (Go.Operand.tmp 33), type := 0, pos := "crierref15.go:432", after := #[{ on := 10, ground := Go.Ground.data }, { on := 4, ground := Go.Ground.data }, { on := 0, ground := Go.Ground.phase }, { on := 1, ground := Go.Ground.phase }, { on := 2, ground := Go.Ground.phase }, { on := 3, ground := Go.Ground.phase }, { on := 4, ground := Go.Ground.phase }, { on := 5, ground := Go.Ground.textOnly Go.Departure.lateStores }, { on := 6, ground := Go.Ground.textOnly Go.Departure.lateStores }, { on := 7, ground := Go.Ground.textOnly Go.Departure.lateStores }, { on := 8, ground := Go.Ground.textOnly Go.Departure.lateStores }, { on := 9, ground := Go.Ground.textOnly Go.Departure.lateStores }, { on := 10, ground := Go.Ground.phase }, { on := 11, ground := Go.Ground.phase }], guard := none }) rfl (fun K hK => ?_) AllReadyH.nil
                refine st_event (by rfl) rfl 76 (.tmp 6) (.tmp 33) rfl g6 0 rfl 76 _ _ BB6.out rfl (by kernel_rfl) (Nat.le_of_ble_eq_true rfl) rfl (fun w37_ hx hk => ?_)
                have n0_ : Aside0 (w37_.heap[g6]? = some (.cells #[.int .i64 x.f0, .string x.f1.f0, .slice E2 x.f1.f1.length e2, .int .i64 x.f1.f2, .bool x.f1.f3, .bool x.f2] 76 (0, 0))) := ⟨hx⟩; have n1_ := Aside0.mk (hk.below HG.out GE6.out)
                have n2_ := Aside0.mk ((hk.keep g7 (by first | exact NE.out | exact Ne.symm NE.out)).trans BB7.out); clear BB7; have BB7 := n2_; clear n2_
                clear BB6 HG hx hk; have BB6 := n0_; have HG := n1_; clear n0_ n1_
                refine hK.out _ _ HG.out (fun hHeld2 => ?_)
                clear hK K hHeld; have hHeld := hHeld2; clear hHeld2
                try simp only [Act.put, List.setIfInBounds_toArray, List.set_cons_zero, List.set_cons_succ]
                refine wpAnyH_ready (rs := [13]) (by kernel_rfl) (by simp) ?_
                refine AllReadyH.cons (o := { dst := none, op := Go.Op.store 76 (Go.Operand.tmp 7) (Go.Operand.tmp 38), type := 0, pos := "crierref15.go:432", after := #[{ on := 11, ground := Go.Ground.data }, { on := 9, ground := Go.Ground.data }, { on := 12, ground := Go.Ground.chain }, { on := 0, ground := Go.Ground.phase }, { on := 1, ground := Go.Ground.phase }, { on := 2, ground := Go.Ground.phase }, { on := 3, ground := Go.Ground.phase }, { on := 4, ground := Go.Ground.phase }, { on := 5, ground := Go.Ground.phase }, { on := 6, ground := Go.Ground.phase }, { on := 7, ground := Go.Ground.phase }, { on := 8, ground := Go.Ground.phase }, { on := 9, ground := Go.Ground.phase }, { on := 10, ground := Go.Ground.phase }, { on := 11, ground := Go.Ground.phase }, { on := 12, ground := Go.Ground.phase }], guard := none }) rfl (fun K hK => ?_) AllReadyH.nil
                refine st_event (by rfl) rfl 76 (.tmp 7) (.tmp 38) rfl g7 0 rfl 76 _ _ BB7.out rfl (by kernel_rfl) (Nat.le_of_ble_eq_true rfl) rfl (fun w38_ hx hk => ?_)
                have n0_ : Aside0 (w38_.heap[g7]? = some (.cells #[.int .i64 y.f0, .string y.f1.f0, .slice F2 y.f1.f1.length u2, .int .i64 y.f1.f2, .bool y.f1.f3, .bool y.f2] 76 (0, 0))) := ⟨hx⟩; have n1_ := Aside0.mk (hk.below HG.out GE7.out)
                have n2_ := Aside0.mk ((hk.keep g6 (by first | exact NE.out | exact Ne.symm NE.out)).trans BB6.out); clear BB6; have BB6 := n2_; clear n2_
                clear BB7 HG hx hk; have BB7 := n0_; have HG := n1_; clear n0_ n1_
                refine hK.out _ _ HG.out (fun hHeld2 => ?_)
                clear hK K hHeld; have hHeld := hHeld2; clear hHeld2
                try simp only [Act.put, List.setIfInBounds_toArray, List.set_cons_zero, List.set_cons_succ]
                refine wpAnyH_done (by kernel_rfl) ?_ _
                refine NoPanic.normal ?_
                try go_wp2
                go_meet
                case rel => exact ⟨g6, g7, rfl, rfl, HG, BB6, BB7⟩
            case rest =>
              obtain ⟨g6, g7, hv6, hv7, HG, BB6, BB7⟩ := hcut; subst hv6 hv7
              obtain ⟨wk, hwk⟩ : ∃ z, z = wc := ⟨_, rfl⟩; subst hwk
              have HWX : Aside0 (wM x.f1) := ⟨HW0.out.1 x HXM.out⟩; have HWY : Aside0 (wM y.f1) := ⟨HW1.out.1 y HYM.out⟩
              have a0 : wk.cell? ⟨g6, 0, none⟩ = _ := (blk_cell BB6.out 0).trans rfl; have b0 : wk.cell? ⟨g7, 0, none⟩ = _ := (blk_cell BB7.out 0).trans rfl; have a1 : wk.cell? ⟨g6, 1, none⟩ = _ := (blk_cell BB6.out 1).trans rfl; have b1 : wk.cell? ⟨g7, 1, none⟩ = _ := (blk_cell BB7.out 1).trans rfl; have a2 : wk.cell? ⟨g6, 2, none⟩ = _ := (blk_cell BB6.out 2).trans rfl; have b2 : wk.cell? ⟨g7, 2, none⟩ = _ := (blk_cell BB7.out 2).trans rfl; have a3 : wk.cell? ⟨g6, 3, none⟩ = _ := (blk_cell BB6.out 3).trans rfl; have b3 : wk.cell? ⟨g7, 3, none⟩ = _ := (blk_cell BB7.out 3).trans rfl; have a4 : wk.cell? ⟨g6, 4, none⟩ = _ := (blk_cell BB6.out 4).trans rfl; have b4 : wk.cell? ⟨g7, 4, none⟩ = _ := (blk_cell BB7.out 4).trans rfl; have a5 : wk.cell? ⟨g6, 5, none⟩ = _ := (blk_cell BB6.out 5).trans rfl; have b5 : wk.cell? ⟨g7, 5, none⟩ = _ := (blk_cell BB7.out 5).trans rfl
              cases t0 : (x.f0 == y.f0) with
              | false =>
                clear hq
                have f0_0 : (x.f0 != y.f0) = true := by simp only [bne, t0]; rfl
                go_wp2_with (first | ((go_at_call 50; go_loud ((with_reducible refine (SameMessage_calls x.f1 y.f1 E2 e2 F2 u2 _ (Kd.C_below GE2.out (below_step HB.out HG.out)) LE2.out (Kd.C_below GF2.out (below_step HB.out HG.out)) LF2.out HWX.out HWY.out).mono ?_); rintro e w5 ⟨rfl, hb⟩; have n0_ := Aside0.mk (below_step HG.out hb); clear HG a0 b0 a1 b1 a2 b2 a3 b3 a4 b4 a5 b5; have HG := n0_; clear n0_ hb))))
                go_ret
                exact ⟨by unfold eW; rw [HE.out]; simp, below_step HB.out HG.out⟩
              | true =>
                cases t1 : (x.f2 == y.f2) with
                | false =>
                  clear hq
                  have f0_0 : (x.f0 != y.f0) = false := by simp only [bne, t0]; rfl
                  have f1_0 : decide (x.f2 = y.f2) = false := by simpa using t1
                  go_wp2_with (first | ((go_at_call 50; go_loud ((with_reducible refine (SameMessage_calls x.f1 y.f1 E2 e2 F2 u2 _ (Kd.C_below GE2.out (below_step HB.out HG.out)) LE2.out (Kd.C_below GF2.out (below_step HB.out HG.out)) LF2.out HWX.out HWY.out).mono ?_); rintro e w5 ⟨rfl, hb⟩; have n0_ := Aside0.mk (below_step HG.out hb); clear HG a0 b0 a1 b1 a2 b2 a3 b3 a4 b4 a5 b5; have HG := n0_; clear n0_ hb))))
                  go_ret
                  exact ⟨by unfold eW; rw [HE.out]; simp, below_step HB.out HG.out⟩
                | true =>
                  have t2 : eM x.f1 y.f1 = false := by unfold eF at hq; rw [t0, t1] at hq; simpa using hq
                  clear hq
                  have f0_0 : (x.f0 != y.f0) = false := by simp only [bne, t0]; rfl
                  have f1_0 : decide (x.f2 = y.f2) = true := by simpa using t1
                  go_wp2_with (first | ((go_at_call 50; go_loud ((with_reducible refine (SameMessage_calls x.f1 y.f1 E2 e2 F2 u2 _ (Kd.C_below GE2.out (below_step HB.out HG.out)) LE2.out (Kd.C_below GF2.out (below_step HB.out HG.out)) LF2.out HWX.out HWY.out).mono ?_); rintro e w5 ⟨rfl, hb⟩; have n0_ := Aside0.mk (below_step HG.out hb); clear HG a0 b0 a1 b1 a2 b2 a3 b3 a4 b4 a5 b5; have HG := n0_; clear n0_ hb))))
                  go_ret
                  exact ⟨by unfold eW; rw [HE.out]; simp, below_step HB.out HG.out⟩
          | true =>
            have HE : Aside0 (eqL eF (X.f1.drop (k + 1)) (Y.f1.drop (k + 1)) = eqL eF X.f1 Y.f1) := ⟨by rw [← HQ.out, HS.out, hq]; rfl⟩
            clear HQ HS
            go_upto_region 6 with (fail)
            go_cut [6, 7] (fun v6 v7 wc => ∃ g6 g7 : Nat, v6 = .pointer (some ⟨g6, 0, none⟩) ∧ v7 = .pointer (some ⟨g7, 0, none⟩) ∧ Aside0 (Below wo.heap.size wo wc) ∧ Aside0 (wc.heap[g6]? = some (.cells #[.int .i64 x.f0, .string x.f1.f0, .slice E2 x.f1.f1.length e2, .int .i64 x.f1.f2, .bool x.f1.f3, .bool x.f2] 76 (0, 0))) ∧ Aside0 (wc.heap[g7]? = some (.cells #[.int .i64 y.f0, .string y.f1.f0, .slice F2 y.f1.f1.length u2, .int .i64 y.f1.f2, .bool y.f1.f3, .bool y.f2] 76 (0, 0))))
            case first =>
              refine wp_region_noPanic ?_
              refine wp_region_held_drew (S := fun W => Below wo.heap.size wo W) (by kernel_rfl) ?hS0 (fun hHeld => ?_)
              case hS0 => exact (Below.refl _ _).drew
              have HG : Aside0 (Below wo.heap.size wo _) := ⟨hHeld⟩
              refine wpAnyH_take (i := 0) (oi := { dst := some 29, op := Go.Op.fieldAddr 62 (Go.Operand.tmp 2) 1, type := 0, pos := "crierref15.go:432", after := #[], guard := none }) (v := ?v39) rfl (by kernel_rfl) (by kernel_rfl) (by kernel_rfl) (fun _ _ _ h => h) (Or.inl ⟨by rfl, ?hy39⟩) hHeld ?rest39
              case hy39 => (intro w_ hSw; (try dsimp only at hSw); (try go_simp); (try with_reducible rfl))
              try simp only [Act.put, List.setIfInBounds_toArray, List.set_cons_zero, List.set_cons_succ]
              refine wpAnyH_take (i := 1) (oi := { dst := some 30, op := Go.Op.load 60 (Go.Operand.tmp 29), type := 60, pos := "crierref15.go:432", after := #[{ on := 0, ground := Go.Ground.data }], guard := none }) (v := ?v40) rfl (by kernel_rfl) (by kernel_rfl) (by kernel_rfl) (fun _ _ _ h => h) (Or.inl ⟨by rfl, ?hy40⟩) hHeld ?rest40
              case hy40 => (intro w_ hSw; (try dsimp only at hSw); have f0_ := pw_cell_below hSw f0; have f1_ := pw_cell_below hSw f1; have f2_ := pw_cell_below hSw f2; have f3_ := pw_cell_below hSw f3; have f4_ := pw_cell_below hSw f4; have f5_ := pw_cell_below hSw f5; have g0_ := pw_cell_below hSw g0; have g1_ := pw_cell_below hSw g1; have g2_ := pw_cell_below hSw g2; have g3_ := pw_cell_below hSw g3; have g4_ := pw_cell_below hSw g4; have g5_ := pw_cell_below hSw g5; have p1_ := pw_cell_below hSw p1; have q1_ := pw_cell_below hSw q1; (try go_simp); (try with_reducible rfl))
              try simp only [Act.put, List.setIfInBounds_toArray, List.set_cons_zero, List.set_cons_succ]
              refine wpAnyH_take (i := 2) (oi := { dst := some 31, op := Go.Op.move (Go.Operand.tmp 5), type := 3, pos := "crierref15.go:432", after := #[], guard := none }) (v := ?v41) rfl (by kernel_rfl) (by kernel_rfl) (by kernel_rfl) (fun _ _ _ h => h) (Or.inl ⟨by rfl, ?hy41⟩) hHeld ?rest41
              case hy41 => (intro w_ hSw; (try dsimp only at hSw); (try go_simp); (try with_reducible rfl))
              try simp only [Act.put, List.setIfInBounds_toArray, List.set_cons_zero, List.set_cons_succ]
              refine wpAnyH_take (i := 3) (oi := { dst := some 32, op := Go.Op.indexAddr 60 (Go.Operand.tmp 30) (Go.Operand.tmp 31), type := 0, pos := "crierref15.go:432", after := #[{ on := 1, ground := Go.Ground.data }, { on := 2, ground := Go.Ground.data }], guard := none }) (v := ?v42) rfl (by kernel_rfl) (by kernel_rfl) (by kernel_rfl) (fun _ _ _ h => h) (Or.inl ⟨by rfl, ?hy42⟩) hHeld ?rest42
              case hy42 => (intro w_ hSw; (try dsimp only at hSw); (try go_simp); (try with_reducible rfl))
              try simp only [Act.put, List.setIfInBounds_toArray, List.set_cons_zero, List.set_cons_succ]
              refine wpAnyH_take (i := 4) (oi := { dst := some 33, op := Go.Op.load 76 (Go.Operand.tmp 32), type := 76, pos := "crierref15.go:432", after := #[{ on := 3, ground := Go.Ground.data }], guard := none }) (v := ?v43) rfl (by kernel_rfl) (by kernel_rfl) (by kernel_rfl) (fun _ _ _ h => h) (Or.inl ⟨by rfl, ?hy43⟩) hHeld ?rest43
              case hy43 => (intro w_ hSw; (try dsimp only at hSw); have f0_ := pw_cell_below hSw f0; have f1_ := pw_cell_below hSw f1; have f2_ := pw_cell_below hSw f2; have f3_ := pw_cell_below hSw f3; have f4_ := pw_cell_below hSw f4; have f5_ := pw_cell_below hSw f5; have g0_ := pw_cell_below hSw g0; have g1_ := pw_cell_below hSw g1; have g2_ := pw_cell_below hSw g2; have g3_ := pw_cell_below hSw g3; have g4_ := pw_cell_below hSw g4; have g5_ := pw_cell_below hSw g5; have p1_ := pw_cell_below hSw p1; have q1_ := pw_cell_below hSw q1; (try go_simp); (try with_reducible rfl))
              try simp only [Act.put, List.setIfInBounds_toArray, List.set_cons_zero, List.set_cons_succ]
              refine wpAnyH_take (i := 5) (oi := { dst := some 34, op := Go.Op.fieldAddr 62 (Go.Operand.tmp 3) 1, type := 0, pos := "crierref15.go:432", after := #[{ on := 12, ground := Go.Ground.gcOnly Go.Departure.lateStores }], guard := none }) (v := ?v44) rfl (by kernel_rfl) (by kernel_rfl) (by kernel_rfl) (fun _ _ _ h => h) (Or.inl ⟨by rfl, ?hy44⟩) hHeld ?rest44
              case hy44 => (intro w_ hSw; (try dsimp only at hSw); (try go_simp); (try with_reducible rfl))
              try simp only [Act.put, List.setIfInBounds_toArray, List.set_cons_zero, List.set_cons_succ]
              refine wpAnyH_take (i := 6) (oi := { dst := some 35, op := Go.Op.load 60 (Go.Operand.tmp 34), type := 60, pos := "crierref15.go:432", after := #[{ on := 5, ground := Go.Ground.data }, { on := 12, ground := Go.Ground.gcOnly Go.Departure.lateStores }], guard := none }) (v := ?v45) rfl (by kernel_rfl) (by kernel_rfl) (by kernel_rfl) (fun _ _ _ h => h) (Or.inl ⟨by rfl, ?hy45⟩) hHeld ?rest45
              case hy45 => (intro w_ hSw; (try dsimp only at hSw); have f0_ := pw_cell_below hSw f0; have f1_ := pw_cell_below hSw f1; have f2_ := pw_cell_below hSw f2; have f3_ := pw_cell_below hSw f3; have f4_ := pw_cell_below hSw f4; have f5_ := pw_cell_below hSw f5; have g0_ := pw_cell_below hSw g0; have g1_ := pw_cell_below hSw g1; have g2_ := pw_cell_below hSw g2; have g3_ := pw_cell_below hSw g3; have g4_ := pw_cell_below hSw g4; have g5_ := pw_cell_below hSw g5; have p1_ := pw_cell_below hSw p1; have q1_ := pw_cell_below hSw q1; (try go_simp); (try with_reducible rfl))
              try simp only [Act.put, List.setIfInBounds_toArray, List.set_cons_zero, List.set_cons_succ]
              refine wpAnyH_take (i := 7) (oi := { dst := some 36, op := Go.Op.move (Go.Operand.tmp 5), type := 3, pos := "crierref15.go:432", after := #[{ on := 12, ground := Go.Ground.gcOnly Go.Departure.lateStores }], guard := none }) (v := ?v46) rfl (by kernel_rfl) (by kernel_rfl) (by kernel_rfl) (fun _ _ _ h => h) (Or.inl ⟨by rfl, ?hy46⟩) hHeld ?rest46
              case hy46 => (intro w_ hSw; (try dsimp only at hSw); (try go_simp); (try with_reducible rfl))
              try simp only [Act.put, List.setIfInBounds_toArray, List.set_cons_zero, List.set_cons_succ]
              refine wpAnyH_take (i := 8) (oi := { dst := some 37, op := Go.Op.indexAddr 60 (Go.Operand.tmp 35) (Go.Operand.tmp 36), type := 0, pos := "crierref15.go:432", after := #[{ on := 6, ground := Go.Ground.data }, { on := 7, ground := Go.Ground.data }, { on := 12, ground := Go.Ground.gcOnly Go.Departure.lateStores }], guard := none }) (v := ?v47) rfl (by kernel_rfl) (by kernel_rfl) (by kernel_rfl) (fun _ _ _ h => h) (Or.inl ⟨by rfl, ?hy47⟩) hHeld ?rest47
              case hy47 => (intro w_ hSw; (try dsimp only at hSw); (try go_simp); (try with_reducible rfl))
              try simp only [Act.put, List.setIfInBounds_toArray, List.set_cons_zero, List.set_cons_succ]
              refine wpAnyH_take (i := 9) (oi := { dst := some 38, op := Go.Op.load 76 (Go.Operand.tmp 37), type := 76, pos := "crierref15.go:432", after := #[{ on := 8, ground := Go.Ground.data }, { on := 12, ground := Go.Ground.gcOnly Go.Departure.lateStores }], guard := none }) (v := ?v48) rfl (by kernel_rfl) (by kernel_rfl) (by kernel_rfl) (fun _ _ _ h => h) (Or.inl ⟨by rfl, ?hy48⟩) hHeld ?rest48
              case hy48 => (intro w_ hSw; (try dsimp only at hSw); have f0_ := pw_cell_below hSw f0; have f1_ := pw_cell_below hSw f1; have f2_ := pw_cell_below hSw f2; have f3_ := pw_cell_below hSw f3; have f4_ := pw_cell_below hSw f4; have f5_ := pw_cell_below hSw f5; have g0_ := pw_cell_below hSw g0; have g1_ := pw_cell_below hSw g1; have g2_ := pw_cell_below hSw g2; have g3_ := pw_cell_below hSw g3; have g4_ := pw_cell_below hSw g4; have g5_ := pw_cell_below hSw g5; have p1_ := pw_cell_below hSw p1; have q1_ := pw_cell_below hSw q1; (try go_simp); (try with_reducible rfl))
              try simp only [Act.put, List.setIfInBounds_toArray, List.set_cons_zero, List.set_cons_succ]
              refine wpAnyH_ready (rs := [10, 11]) (by kernel_rfl) (by simp) ?_
              refine AllReadyH.cons (o := { dst := some 6, op := Go.Op.alloc 76, type := 0, pos := "crierref15.go:432", after := #[], guard := none }) rfl (fun K hK => ?w10_48) (AllReadyH.cons (o := { dst := some 7, op := Go.Op.alloc 76, type := 0, pos := "crierref15.go:432", after := #[], guard := none }) rfl (fun K hK => ?w11_48) (AllReadyH.nil))
              case w10_48 =>
                refine al_event (cs := #[.int .i64 0, .string ⟨#[]⟩, .slice none 0 0, .int .i64 0, .bool false, .bool false]) (t := 76) (by rfl) ?hr49 (fun g6 hg w49_ hbox hb => ?_)
                case hr49 => (first | (go_simp; done) | (go_simp; rfl))
                have GE6 := Aside0.mk (show wo.heap.size ≤ g6 by rw [hg]; exact HG.out.size)
                have BB6 := Aside0.mk hbox; have n0_ := Aside0.mk (below_step HG.out hb); clear HG hg hbox hb; have HG := n0_; clear n0_
                refine hK.out _ _ HG.out (fun hHeld2 => ?_)
                clear hK K hHeld; have hHeld := hHeld2; clear hHeld2
                try simp only [Act.put, List.setIfInBounds_toArray, List.set_cons_zero, List.set_cons_succ]
                refine wpAnyH_ready (rs := [11]) (by kernel_rfl) (by simp) ?_
                refine AllReadyH.cons (o := { dst := some 7, op := Go.Op.alloc 76, type := 0, pos := "crierref15.go:432", after := #[], guard := none }) rfl (fun K hK => ?_) AllReadyH.nil
                refine al_event (cs := #[.int .i64 0, .string ⟨#[]⟩, .slice none 0 0, .int .i64 0, .bool false, .bool false]) (t := 76) (by rfl) ?hr50 (fun g7 hg w50_ hbox hb => ?_)
                case hr50 => (first | (go_simp; done) | (go_simp; rfl))
                have GE7 := Aside0.mk (show wo.heap.size ≤ g7 by rw [hg]; exact HG.out.size)
                have NE := Aside0.mk (show g6 ≠ g7 by rw [hg]; exact Nat.ne_of_lt (blk_lt BB6.out)); have n1_ := Aside0.mk (blk_below BB6.out hb); clear BB6; have BB6 := n1_; clear n1_
                have BB7 := Aside0.mk hbox; have n0_ := Aside0.mk (below_step HG.out hb); clear HG hg hbox hb; have HG := n0_; clear n0_
                refine hK.out _ _ HG.out (fun hHeld2 => ?_)
                clear hK K hHeld; have hHeld := hHeld2; clear hHeld2
                try simp only [Act.put, List.setIfInBounds_toArray, List.set_cons_zero, List.set_cons_succ]
                refine wpAnyH_ready (rs := [12]) (by kernel_rfl) (by simp) ?_
                refine AllReadyH.cons (o := { dst := none, op := Go.Op.store 76 (Go.Operand.tmp 6) (Go.Operand.tmp 33), type := 0, pos := "crierref15.go:432", after := #[{ on := 10, ground := Go.Ground.data }, { on := 4, ground := Go.Ground.data }, { on := 0, ground := Go.Ground.phase }, { on := 1, ground := Go.Ground.phase }, { on := 2, ground := Go.Ground.phase }, { on := 3, ground := Go.Ground.phase }, { on := 4, ground := Go.Ground.phase }, { on := 5, ground := Go.Ground.textOnly Go.Departure.lateStores }, { on := 6, ground := Go.Ground.textOnly Go.Departure.lateStores }, { on := 7, ground := Go.Ground.textOnly Go.Departure.lateStores }, { on := 8, ground := Go.Ground.textOnly Go.Departure.lateStores }, { on := 9, ground := Go.Ground.textOnly Go.Departure.lateStores }, { on := 10, ground := Go.Ground.phase }, { on := 11, ground := Go.Ground.phase }], guard := none }) rfl (fun K hK => ?_) AllReadyH.nil
                refine st_event (by rfl) rfl 76 (.tmp 6) (.tmp 33) rfl g6 0 rfl 76 _ _ BB6.out rfl (by kernel_rfl) (Nat.le_of_ble_eq_true rfl) rfl (fun w51_ hx hk => ?_)
                have n0_ : Aside0 (w51_.heap[g6]? = some (.cells #[.int .i64 x.f0, .string x.f1.f0, .slice E2 x.f1.f1.length e2, .int .i64 x.f1.f2, .bool x.f1.f3, .bool x.f2] 76 (0, 0))) := ⟨hx⟩; have n1_ := Aside0.mk (hk.below HG.out GE6.out)
                have n2_ := Aside0.mk ((hk.keep g7 (by first | exact NE.out | exact Ne.symm NE.out)).trans BB7.out); clear BB7; have BB7 := n2_; clear n2_
                clear BB6 HG hx hk; have BB6 := n0_; have HG := n1_; clear n0_ n1_
                refine hK.out _ _ HG.out (fun hHeld2 => ?_)
                clear hK K hHeld; have hHeld := hHeld2; clear hHeld2
                try simp only [Act.put, List.setIfInBounds_toArray, List.set_cons_zero, List.set_cons_succ]
                refine wpAnyH_ready (rs := [13]) (by kernel_rfl) (by simp) ?_
                refine AllReadyH.cons (o := { dst := none, op := Go.Op.store 76 (Go.Operand.tmp 7) (Go.Operand.tmp 38), type := 0, pos := "crierref15.go:432", after := #[{ on := 11, ground := Go.Ground.data }, { on := 9, ground := Go.Ground.data }, { on := 12, ground := Go.Ground.chain }, { on := 0, ground := Go.Ground.phase }, { on := 1, ground := Go.Ground.phase }, { on := 2, ground := Go.Ground.phase }, { on := 3, ground := Go.Ground.phase }, { on := 4, ground := Go.Ground.phase }, { on := 5, ground := Go.Ground.phase }, { on := 6, ground := Go.Ground.phase }, { on := 7, ground := Go.Ground.phase }, { on := 8, ground := Go.Ground.phase }, { on := 9, ground := Go.Ground.phase }, { on := 10, ground := Go.Ground.phase }, { on := 11, ground := Go.Ground.phase }, { on := 12, ground := Go.Ground.phase }], guard := none }) rfl (fun K hK => ?_) AllReadyH.nil
                refine st_event (by rfl) rfl 76 (.tmp 7) (.tmp 38) rfl g7 0 rfl 76 _ _ BB7.out rfl (by kernel_rfl) (Nat.le_of_ble_eq_true rfl) rfl (fun w52_ hx hk => ?_)
                have n0_ : Aside0 (w52_.heap[g7]? = some (.cells #[.int .i64 y.f0, .string y.f1.f0, .slice F2 y.f1.f1.length u2, .int .i64 y.f1.f2, .bool y.f1.f3, .bool y.f2] 76 (0, 0))) := ⟨hx⟩; have n1_ := Aside0.mk (hk.below HG.out GE7.out)
                have n2_ := Aside0.mk ((hk.keep g6 (by first | exact NE.out | exact Ne.symm NE.out)).trans BB6.out); clear BB6; have BB6 := n2_; clear n2_
                clear BB7 HG hx hk; have BB7 := n0_; have HG := n1_; clear n0_ n1_
                refine hK.out _ _ HG.out (fun hHeld2 => ?_)
                clear hK K hHeld; have hHeld := hHeld2; clear hHeld2
                try simp only [Act.put, List.setIfInBounds_toArray, List.set_cons_zero, List.set_cons_succ]
                refine wpAnyH_done (by kernel_rfl) ?_ _
                refine NoPanic.normal ?_
                try go_wp2
                go_meet
                case rel => exact ⟨g6, g7, rfl, rfl, HG, BB6, BB7⟩
              case w11_48 =>
                refine al_event (cs := #[.int .i64 0, .string ⟨#[]⟩, .slice none 0 0, .int .i64 0, .bool false, .bool false]) (t := 76) (by rfl) ?hr53 (fun g7 hg w53_ hbox hb => ?_)
                case hr53 => (first | (go_simp; done) | (go_simp; rfl))
                have GE7 := Aside0.mk (show wo.heap.size ≤ g7 by rw [hg]; exact HG.out.size)
                have BB7 := Aside0.mk hbox; have n0_ := Aside0.mk (below_step HG.out hb); clear HG hg hbox hb; have HG := n0_; clear n0_
                refine hK.out _ _ HG.out (fun hHeld2 => ?_)
                clear hK K hHeld; have hHeld := hHeld2; clear hHeld2
                try simp only [Act.put, List.setIfInBounds_toArray, List.set_cons_zero, List.set_cons_succ]
                refine wpAnyH_ready (rs := [10]) (by kernel_rfl) (by simp) ?_
                refine AllReadyH.cons (o := { dst := some 6, op := Go.Op.alloc 76, type := 0, pos := "crierref15.go:432", after := #[], guard := none }) rfl (fun K hK => ?_) AllReadyH.nil
                refine al_event (cs := #[.int .i64 0, .string ⟨#[]⟩, .slice none 0 0, .int .i64 0, .bool false, .bool false]) (t := 76) (by rfl) ?hr54 (fun g6 hg w54_ hbox hb => ?_)
                case hr54 => (first | (go_simp; done) | (go_simp; rfl))
                have GE6 := Aside0.mk (show wo.heap.size ≤ g6 by rw [hg]; exact HG.out.size)
                have NE := Aside0.mk (show g7 ≠ g6 by rw [hg]; exact Nat.ne_of_lt (blk_lt BB7.out)); have n1_ := Aside0.mk (blk_below BB7.out hb); clear BB7; have BB7 := n1_; clear n1_
                have BB6 := Aside0.mk hbox; have n0_ := Aside0.mk (below_step HG.out hb); clear HG hg hbox hb; have HG := n0_; clear n0_
                refine hK.out _ _ HG.out (fun hHeld2 => ?_)
                clear hK K hHeld; have hHeld := hHeld2; clear hHeld2
                try simp only [Act.put, List.setIfInBounds_toArray, List.set_cons_zero, List.set_cons_succ]
                refine wpAnyH_ready (rs := [12]) (by kernel_rfl) (by simp) ?_
                refine AllReadyH.cons (o := { dst := none, op := Go.Op.store 76 (Go.Operand.tmp 6) (Go.Operand.tmp 33), type := 0, pos := "crierref15.go:432", after := #[{ on := 10, ground := Go.Ground.data }, { on := 4, ground := Go.Ground.data }, { on := 0, ground := Go.Ground.phase }, { on := 1, ground := Go.Ground.phase }, { on := 2, ground := Go.Ground.phase }, { on := 3, ground := Go.Ground.phase }, { on := 4, ground := Go.Ground.phase }, { on := 5, ground := Go.Ground.textOnly Go.Departure.lateStores }, { on := 6, ground := Go.Ground.textOnly Go.Departure.lateStores }, { on := 7, ground := Go.Ground.textOnly Go.Departure.lateStores }, { on := 8, ground := Go.Ground.textOnly Go.Departure.lateStores }, { on := 9, ground := Go.Ground.textOnly Go.Departure.lateStores }, { on := 10, ground := Go.Ground.phase }, { on := 11, ground := Go.Ground.phase }], guard := none }) rfl (fun K hK => ?_) AllReadyH.nil
                refine st_event (by rfl) rfl 76 (.tmp 6) (.tmp 33) rfl g6 0 rfl 76 _ _ BB6.out rfl (by kernel_rfl) (Nat.le_of_ble_eq_true rfl) rfl (fun w55_ hx hk => ?_)
                have n0_ : Aside0 (w55_.heap[g6]? = some (.cells #[.int .i64 x.f0, .string x.f1.f0, .slice E2 x.f1.f1.length e2, .int .i64 x.f1.f2, .bool x.f1.f3, .bool x.f2] 76 (0, 0))) := ⟨hx⟩; have n1_ := Aside0.mk (hk.below HG.out GE6.out)
                have n2_ := Aside0.mk ((hk.keep g7 (by first | exact NE.out | exact Ne.symm NE.out)).trans BB7.out); clear BB7; have BB7 := n2_; clear n2_
                clear BB6 HG hx hk; have BB6 := n0_; have HG := n1_; clear n0_ n1_
                refine hK.out _ _ HG.out (fun hHeld2 => ?_)
                clear hK K hHeld; have hHeld := hHeld2; clear hHeld2
                try simp only [Act.put, List.setIfInBounds_toArray, List.set_cons_zero, List.set_cons_succ]
                refine wpAnyH_ready (rs := [13]) (by kernel_rfl) (by simp) ?_
                refine AllReadyH.cons (o := { dst := none, op := Go.Op.store 76 (Go.Operand.tmp 7) (Go.Operand.tmp 38), type := 0, pos := "crierref15.go:432", after := #[{ on := 11, ground := Go.Ground.data }, { on := 9, ground := Go.Ground.data }, { on := 12, ground := Go.Ground.chain }, { on := 0, ground := Go.Ground.phase }, { on := 1, ground := Go.Ground.phase }, { on := 2, ground := Go.Ground.phase }, { on := 3, ground := Go.Ground.phase }, { on := 4, ground := Go.Ground.phase }, { on := 5, ground := Go.Ground.phase }, { on := 6, ground := Go.Ground.phase }, { on := 7, ground := Go.Ground.phase }, { on := 8, ground := Go.Ground.phase }, { on := 9, ground := Go.Ground.phase }, { on := 10, ground := Go.Ground.phase }, { on := 11, ground := Go.Ground.phase }, { on := 12, ground := Go.Ground.phase }], guard := none }) rfl (fun K hK => ?_) AllReadyH.nil
                refine st_event (by rfl) rfl 76 (.tmp 7) (.tmp 38) rfl g7 0 rfl 76 _ _ BB7.out rfl (by kernel_rfl) (Nat.le_of_ble_eq_true rfl) rfl (fun w56_ hx hk => ?_)
                have n0_ : Aside0 (w56_.heap[g7]? = some (.cells #[.int .i64 y.f0, .string y.f1.f0, .slice F2 y.f1.f1.length u2, .int .i64 y.f1.f2, .bool y.f1.f3, .bool y.f2] 76 (0, 0))) := ⟨hx⟩; have n1_ := Aside0.mk (hk.below HG.out GE7.out)
                have n2_ := Aside0.mk ((hk.keep g6 (by first | exact NE.out | exact Ne.symm NE.out)).trans BB6.out); clear BB6; have BB6 := n2_; clear n2_
                clear BB7 HG hx hk; have BB7 := n0_; have HG := n1_; clear n0_ n1_
                refine hK.out _ _ HG.out (fun hHeld2 => ?_)
                clear hK K hHeld; have hHeld := hHeld2; clear hHeld2
                try simp only [Act.put, List.setIfInBounds_toArray, List.set_cons_zero, List.set_cons_succ]
                refine wpAnyH_done (by kernel_rfl) ?_ _
                refine NoPanic.normal ?_
                try go_wp2
                go_meet
                case rel => exact ⟨g6, g7, rfl, rfl, HG, BB6, BB7⟩
            case rest =>
              obtain ⟨g6, g7, hv6, hv7, HG, BB6, BB7⟩ := hcut; subst hv6 hv7
              obtain ⟨wk, hwk⟩ : ∃ z, z = wc := ⟨_, rfl⟩; subst hwk
              have HWX : Aside0 (wM x.f1) := ⟨HW0.out.1 x HXM.out⟩; have HWY : Aside0 (wM y.f1) := ⟨HW1.out.1 y HYM.out⟩
              have a0 : wk.cell? ⟨g6, 0, none⟩ = _ := (blk_cell BB6.out 0).trans rfl; have b0 : wk.cell? ⟨g7, 0, none⟩ = _ := (blk_cell BB7.out 0).trans rfl; have a1 : wk.cell? ⟨g6, 1, none⟩ = _ := (blk_cell BB6.out 1).trans rfl; have b1 : wk.cell? ⟨g7, 1, none⟩ = _ := (blk_cell BB7.out 1).trans rfl; have a2 : wk.cell? ⟨g6, 2, none⟩ = _ := (blk_cell BB6.out 2).trans rfl; have b2 : wk.cell? ⟨g7, 2, none⟩ = _ := (blk_cell BB7.out 2).trans rfl; have a3 : wk.cell? ⟨g6, 3, none⟩ = _ := (blk_cell BB6.out 3).trans rfl; have b3 : wk.cell? ⟨g7, 3, none⟩ = _ := (blk_cell BB7.out 3).trans rfl; have a4 : wk.cell? ⟨g6, 4, none⟩ = _ := (blk_cell BB6.out 4).trans rfl; have b4 : wk.cell? ⟨g7, 4, none⟩ = _ := (blk_cell BB7.out 4).trans rfl; have a5 : wk.cell? ⟨g6, 5, none⟩ = _ := (blk_cell BB6.out 5).trans rfl; have b5 : wk.cell? ⟨g7, 5, none⟩ = _ := (blk_cell BB7.out 5).trans rfl
              have ht : (x.f0 == y.f0) = true ∧ (x.f2 == y.f2) = true ∧ eM x.f1 y.f1 = true := by unfold eF at hq; simpa [Bool.and_eq_true] using hq
              obtain ⟨t0, t1, t2⟩ := ht; clear hq
              have f0_0 : (x.f0 != y.f0) = false := by simp only [bne, t0]; rfl
              have f1_0 : decide (x.f2 = y.f2) = true := by simpa using t1
              go_wp2_with (first | ((go_at_call 50; go_loud ((with_reducible refine (SameMessage_calls x.f1 y.f1 E2 e2 F2 u2 _ (Kd.C_below GE2.out (below_step HB.out HG.out)) LE2.out (Kd.C_below GF2.out (below_step HB.out HG.out)) LF2.out HWX.out HWY.out).mono ?_); rintro e w5 ⟨rfl, hb⟩; have n0_ := Aside0.mk (below_step HG.out hb); clear HG a0 b0 a1 b1 a2 b2 a3 b3 a4 b4 a5 b5; have HG := n0_; clear n0_ hb))))
              go_roundw
              case rel => exact ⟨k + 1, by omega, by go_num, HE, ⟨below_step HB.out HG.out⟩, ⟨blk_below BX0.out HG.out⟩, ⟨blk_below BX1.out HG.out⟩⟩
              case measure => simp [intOf]; omega
        · obtain rfl : k = X.f1.length := by omega
          have HE : Aside0 (eqL eF X.f1 Y.f1 = true) := ⟨by rw [← HQ.out]; exact eqL_end HLEN.out⟩
          clear HQ
          go_wp2_with (go_at_call 17; (with_reducible refine (sameMessages_calls _ _ _ _ _ _ _ (Kd.C_below HR2.out HB.out) HC2.out (Kd.C_below HS2.out HB.out) HD2.out HW0.out.2 HW1.out.2).mono ?_); rintro e w5 ⟨rfl, hb⟩; have n0_ := Aside0.mk (below_step HB.out hb); clear HB hb; have HB := n0_; clear n0_)
          go_ret
          exact ⟨by unfold eW; rw [HT0.out, HE.out]; rfl, HB.out⟩
theorem SameSession_calls (X Y : S64) (A1 : Option Addr) (c1 : Nat) (B1 : Option Addr) (d1 : Nat) (A3 : Option Addr) (c3 : Nat) (B3 : Option Addr) (d3 : Nat) (A4 : Option Addr) (c4 : Nat) (B4 : Option Addr) (d4 : Nat) (A5 : Option Addr) (c5 : Nat) (B5 : Option Addr) (d5 : Nat) (w : World) (hr1 : Kd.C k90 w A1 X.f1.length X.f1) (hc1 : X.f1.length ≤ c1) (hs1 : Kd.C k90 w B1 Y.f1.length Y.f1) (hd1 : Y.f1.length ≤ d1) (hr3 : Kd.C k76 w A3 X.f2.f1.length X.f2.f1) (hc3 : X.f2.f1.length ≤ c3) (hs3 : Kd.C k76 w B3 Y.f2.f1.length Y.f2.f1) (hd3 : Y.f2.f1.length ≤ d3) (hr4 : Kd.C k72 w A4 X.f2.f2.length X.f2.f2) (hc4 : X.f2.f2.length ≤ c4) (hs4 : Kd.C k72 w B4 Y.f2.f2.length Y.f2.f2) (hd4 : Y.f2.f2.length ≤ d4) (hr5 : Kd.C (Kd.int .i64) w A5 X.f3.length X.f3) (hc5 : X.f3.length ≤ c5) (hs5 : Kd.C (Kd.int .i64) w B5 Y.f3.length Y.f3) (hd5 : Y.f3.length ≤ d5) (hw0 : wS X) (hw1 : wS Y) :
    Calls Try.prog 16 #[.agg #[.string X.f0, .slice A1 X.f1.length c1, .int .i64 X.f2.f0, .slice A3 X.f2.f1.length c3, .slice A4 X.f2.f2.length c4, .slice A5 X.f3.length c5], .agg #[.string Y.f0, .slice B1 Y.f1.length d1, .int .i64 Y.f2.f0, .slice B3 Y.f2.f1.length d3, .slice B4 Y.f2.f2.length d4, .slice B5 Y.f3.length d5]] w fun e w' => e = .returned (.bool (eS X Y)) ∧ Below w.heap.size w w' := by
  have hm0 := hr1.2.1; have hm1 := hr5.2.1
  have HR1 := Aside0.mk hr1; have HC1 := Aside0.mk hc1; have HS1 := Aside0.mk hs1; have HD1 := Aside0.mk hd1
  have HR3 := Aside0.mk hr3; have HC3 := Aside0.mk hc3; have HS3 := Aside0.mk hs3; have HD3 := Aside0.mk hd3
  have HR4 := Aside0.mk hr4; have HC4 := Aside0.mk hc4; have HS4 := Aside0.mk hs4; have HD4 := Aside0.mk hd4
  have HR5 := Aside0.mk hr5; have HC5 := Aside0.mk hc5; have HS5 := Aside0.mk hs5; have HD5 := Aside0.mk hd5
  have HW0 : Aside0 ((∀ z ∈ X.f2.f1, wF z) ∧ ∀ z ∈ X.f2.f2, wM z) := ⟨hw0⟩; have HW1 : Aside0 ((∀ z ∈ Y.f2.f1, wF z) ∧ ∀ z ∈ Y.f2.f2, wM z) := ⟨hw1⟩; have HB := Aside0.mk (Below.refl w.heap.size w)
  clear hw0 hw1 hr1 hc1 hs1 hd1 hr3 hc3 hs3 hd3 hr4 hc4 hs4 hd4 hr5 hc5 hs5 hd5
  have hu := Try.underlying90
  cases t0 : (X.f0.toList == Y.f0.toList) with
  | false =>
    have HE : Aside0 ((eS X Y) = false) := ⟨by unfold eS; rw [t0]; rfl⟩
    have f0_0 : (X.f0.toList != Y.f0.toList) = true := by simp only [bne, t0]; rfl
    go_enter Try.func16, Try.ntmps16
    go_wp2_with (first | ((with_reducible refine gate_dst (N := 2) rfl ?_); refine box_event ?hg (N := 2) ?hd (cs := #[.string X.f0, .slice A1 X.f1.length c1, .int .i64 X.f2.f0, .slice A3 X.f2.f1.length c3, .slice A4 X.f2.f2.length c4, .slice A5 X.f3.length c5]) (t := 64) ?hr ?_; (case hd => rfl); (case hg => rfl); (case hr => first | (go_simp; done) | (go_simp; rfl)); intro ga hgga w3 hbox hb; clear hgga; have BX0 := Aside0.mk hbox; have n0_ := Aside0.mk (below_step HB.out hb); clear HB hbox hb; have HB := n0_; clear n0_) | ((with_reducible refine gate_dst (N := 3) rfl ?_); refine box_event ?hg (N := 3) ?hd (cs := #[.string Y.f0, .slice B1 Y.f1.length d1, .int .i64 Y.f2.f0, .slice B3 Y.f2.f1.length d3, .slice B4 Y.f2.f2.length d4, .slice B5 Y.f3.length d5]) (t := 64) ?hr ?_; (case hd => rfl); (case hg => rfl); (case hr => first | (go_simp; done) | (go_simp; rfl)); intro gb hggb w4 hbox hb; clear hggb; have BX1 := Aside0.mk hbox; have n0_ := Aside0.mk (below_step HB.out hb); have n1_ := Aside0.mk (blk_below BX0.out hb); clear HB BX0 hbox hb; have HB := n0_; have BX0 := n1_; clear n0_ n1_; have p0 : w4.cell? ⟨ga, 0, none⟩ = _ := (blk_cell BX0.out 0).trans rfl; have q0 : w4.cell? ⟨gb, 0, none⟩ = _ := (blk_cell BX1.out 0).trans rfl; have p1 : w4.cell? ⟨ga, 1, none⟩ = _ := (blk_cell BX0.out 1).trans rfl; have q1 : w4.cell? ⟨gb, 1, none⟩ = _ := (blk_cell BX1.out 1).trans rfl; have p2 : w4.cell? ⟨ga, 2, none⟩ = _ := (blk_cell BX0.out 2).trans rfl; have q2 : w4.cell? ⟨gb, 2, none⟩ = _ := (blk_cell BX1.out 2).trans rfl; have p3 : w4.cell? ⟨ga, 3, none⟩ = _ := (blk_cell BX0.out 3).trans rfl; have q3 : w4.cell? ⟨gb, 3, none⟩ = _ := (blk_cell BX1.out 3).trans rfl; have p4 : w4.cell? ⟨ga, 4, none⟩ = _ := (blk_cell BX0.out 4).trans rfl; have q4 : w4.cell? ⟨gb, 4, none⟩ = _ := (blk_cell BX1.out 4).trans rfl; have p5 : w4.cell? ⟨ga, 5, none⟩ = _ := (blk_cell BX0.out 5).trans rfl; have q5 : w4.cell? ⟨gb, 5, none⟩ = _ := (blk_cell BX1.out 5).trans rfl))
    go_ret
    exact ⟨by rw [HE.out]; rfl, (by repeat (with_reducible first | exact HB.out | apply below_alloc | apply pw_below_drewN | (refine Below.setCell ?_ HB.out.size _)))⟩
  | true =>
    cases t1 : (decide (X.f1.length = Y.f1.length)) with
    | false =>
      have HE : Aside0 ((eS X Y) = false) := ⟨by unfold eS; rw [eqL_ne (l := X.f1) (m := Y.f1) (by simpa using t1)]; simp⟩
      have f0_0 : (X.f0.toList != Y.f0.toList) = false := by simp only [bne, t0]; rfl
      have f1_0 : ((X.f1.length : Int) != (Y.f1.length : Int)) = true := by have h := t1; simp only [decide_eq_true_eq, decide_eq_false_iff_not] at h; simp; omega
      go_enter Try.func16, Try.ntmps16
      go_wp2_with (first | ((with_reducible refine gate_dst (N := 2) rfl ?_); refine box_event ?hg (N := 2) ?hd (cs := #[.string X.f0, .slice A1 X.f1.length c1, .int .i64 X.f2.f0, .slice A3 X.f2.f1.length c3, .slice A4 X.f2.f2.length c4, .slice A5 X.f3.length c5]) (t := 64) ?hr ?_; (case hd => rfl); (case hg => rfl); (case hr => first | (go_simp; done) | (go_simp; rfl)); intro ga hgga w3 hbox hb; clear hgga; have BX0 := Aside0.mk hbox; have n0_ := Aside0.mk (below_step HB.out hb); clear HB hbox hb; have HB := n0_; clear n0_) | ((with_reducible refine gate_dst (N := 3) rfl ?_); refine box_event ?hg (N := 3) ?hd (cs := #[.string Y.f0, .slice B1 Y.f1.length d1, .int .i64 Y.f2.f0, .slice B3 Y.f2.f1.length d3, .slice B4 Y.f2.f2.length d4, .slice B5 Y.f3.length d5]) (t := 64) ?hr ?_; (case hd => rfl); (case hg => rfl); (case hr => first | (go_simp; done) | (go_simp; rfl)); intro gb hggb w4 hbox hb; clear hggb; have BX1 := Aside0.mk hbox; have n0_ := Aside0.mk (below_step HB.out hb); have n1_ := Aside0.mk (blk_below BX0.out hb); clear HB BX0 hbox hb; have HB := n0_; have BX0 := n1_; clear n0_ n1_; have p0 : w4.cell? ⟨ga, 0, none⟩ = _ := (blk_cell BX0.out 0).trans rfl; have q0 : w4.cell? ⟨gb, 0, none⟩ = _ := (blk_cell BX1.out 0).trans rfl; have p1 : w4.cell? ⟨ga, 1, none⟩ = _ := (blk_cell BX0.out 1).trans rfl; have q1 : w4.cell? ⟨gb, 1, none⟩ = _ := (blk_cell BX1.out 1).trans rfl; have p2 : w4.cell? ⟨ga, 2, none⟩ = _ := (blk_cell BX0.out 2).trans rfl; have q2 : w4.cell? ⟨gb, 2, none⟩ = _ := (blk_cell BX1.out 2).trans rfl; have p3 : w4.cell? ⟨ga, 3, none⟩ = _ := (blk_cell BX0.out 3).trans rfl; have q3 : w4.cell? ⟨gb, 3, none⟩ = _ := (blk_cell BX1.out 3).trans rfl; have p4 : w4.cell? ⟨ga, 4, none⟩ = _ := (blk_cell BX0.out 4).trans rfl; have q4 : w4.cell? ⟨gb, 4, none⟩ = _ := (blk_cell BX1.out 4).trans rfl; have p5 : w4.cell? ⟨ga, 5, none⟩ = _ := (blk_cell BX0.out 5).trans rfl; have q5 : w4.cell? ⟨gb, 5, none⟩ = _ := (blk_cell BX1.out 5).trans rfl))
      go_ret
      exact ⟨by rw [HE.out]; rfl, (by repeat (with_reducible first | exact HB.out | apply below_alloc | apply pw_below_drewN | (refine Below.setCell ?_ HB.out.size _)))⟩
    | true =>
      cases t2 : (decide (X.f3.length = Y.f3.length)) with
      | false =>
        have HE : Aside0 ((eS X Y) = false) := ⟨by unfold eS; rw [eqL_ne (l := X.f3) (m := Y.f3) (by simpa using t2)]; simp⟩
        have f0_0 : (X.f0.toList != Y.f0.toList) = false := by simp only [bne, t0]; rfl
        have f1_0 : ((X.f1.length : Int) != (Y.f1.length : Int)) = false := by have h := t1; simp only [decide_eq_true_eq, decide_eq_false_iff_not] at h; simp; omega
        have f2_0 : ((X.f3.length : Int) != (Y.f3.length : Int)) = true := by have h := t2; simp only [decide_eq_true_eq, decide_eq_false_iff_not] at h; simp; omega
        go_enter Try.func16, Try.ntmps16
        go_wp2_with (first | ((with_reducible refine gate_dst (N := 2) rfl ?_); refine box_event ?hg (N := 2) ?hd (cs := #[.string X.f0, .slice A1 X.f1.length c1, .int .i64 X.f2.f0, .slice A3 X.f2.f1.length c3, .slice A4 X.f2.f2.length c4, .slice A5 X.f3.length c5]) (t := 64) ?hr ?_; (case hd => rfl); (case hg => rfl); (case hr => first | (go_simp; done) | (go_simp; rfl)); intro ga hgga w3 hbox hb; clear hgga; have BX0 := Aside0.mk hbox; have n0_ := Aside0.mk (below_step HB.out hb); clear HB hbox hb; have HB := n0_; clear n0_) | ((with_reducible refine gate_dst (N := 3) rfl ?_); refine box_event ?hg (N := 3) ?hd (cs := #[.string Y.f0, .slice B1 Y.f1.length d1, .int .i64 Y.f2.f0, .slice B3 Y.f2.f1.length d3, .slice B4 Y.f2.f2.length d4, .slice B5 Y.f3.length d5]) (t := 64) ?hr ?_; (case hd => rfl); (case hg => rfl); (case hr => first | (go_simp; done) | (go_simp; rfl)); intro gb hggb w4 hbox hb; clear hggb; have BX1 := Aside0.mk hbox; have n0_ := Aside0.mk (below_step HB.out hb); have n1_ := Aside0.mk (blk_below BX0.out hb); clear HB BX0 hbox hb; have HB := n0_; have BX0 := n1_; clear n0_ n1_; have p0 : w4.cell? ⟨ga, 0, none⟩ = _ := (blk_cell BX0.out 0).trans rfl; have q0 : w4.cell? ⟨gb, 0, none⟩ = _ := (blk_cell BX1.out 0).trans rfl; have p1 : w4.cell? ⟨ga, 1, none⟩ = _ := (blk_cell BX0.out 1).trans rfl; have q1 : w4.cell? ⟨gb, 1, none⟩ = _ := (blk_cell BX1.out 1).trans rfl; have p2 : w4.cell? ⟨ga, 2, none⟩ = _ := (blk_cell BX0.out 2).trans rfl; have q2 : w4.cell? ⟨gb, 2, none⟩ = _ := (blk_cell BX1.out 2).trans rfl; have p3 : w4.cell? ⟨ga, 3, none⟩ = _ := (blk_cell BX0.out 3).trans rfl; have q3 : w4.cell? ⟨gb, 3, none⟩ = _ := (blk_cell BX1.out 3).trans rfl; have p4 : w4.cell? ⟨ga, 4, none⟩ = _ := (blk_cell BX0.out 4).trans rfl; have q4 : w4.cell? ⟨gb, 4, none⟩ = _ := (blk_cell BX1.out 4).trans rfl; have p5 : w4.cell? ⟨ga, 5, none⟩ = _ := (blk_cell BX0.out 5).trans rfl; have q5 : w4.cell? ⟨gb, 5, none⟩ = _ := (blk_cell BX1.out 5).trans rfl))
        go_ret
        exact ⟨by rw [HE.out]; rfl, (by repeat (with_reducible first | exact HB.out | apply below_alloc | apply pw_below_drewN | (refine Below.setCell ?_ HB.out.size _)))⟩
      | true =>
        cases t3 : (eW X.f2 Y.f2) with
        | false =>
          have HE : Aside0 ((eS X Y) = false) := ⟨by unfold eS; unfold eW at t3; cases h1 : (X.f2.f0 == Y.f2.f0) <;> cases h2 : eqL eF X.f2.f1 Y.f2.f1 <;> cases h3 : eqL eM X.f2.f2 Y.f2.f2 <;> simp_all⟩
          have f0_0 : (X.f0.toList != Y.f0.toList) = false := by simp only [bne, t0]; rfl
          have f1_0 : ((X.f1.length : Int) != (Y.f1.length : Int)) = false := by have h := t1; simp only [decide_eq_true_eq, decide_eq_false_iff_not] at h; simp; omega
          have f2_0 : ((X.f3.length : Int) != (Y.f3.length : Int)) = false := by have h := t2; simp only [decide_eq_true_eq, decide_eq_false_iff_not] at h; simp; omega
          go_enter Try.func16, Try.ntmps16
          go_wp2_with (first | ((with_reducible refine gate_dst (N := 2) rfl ?_); refine box_event ?hg (N := 2) ?hd (cs := #[.string X.f0, .slice A1 X.f1.length c1, .int .i64 X.f2.f0, .slice A3 X.f2.f1.length c3, .slice A4 X.f2.f2.length c4, .slice A5 X.f3.length c5]) (t := 64) ?hr ?_; (case hd => rfl); (case hg => rfl); (case hr => first | (go_simp; done) | (go_simp; rfl)); intro ga hgga w3 hbox hb; clear hgga; have BX0 := Aside0.mk hbox; have n0_ := Aside0.mk (below_step HB.out hb); clear HB hbox hb; have HB := n0_; clear n0_) | ((with_reducible refine gate_dst (N := 3) rfl ?_); refine box_event ?hg (N := 3) ?hd (cs := #[.string Y.f0, .slice B1 Y.f1.length d1, .int .i64 Y.f2.f0, .slice B3 Y.f2.f1.length d3, .slice B4 Y.f2.f2.length d4, .slice B5 Y.f3.length d5]) (t := 64) ?hr ?_; (case hd => rfl); (case hg => rfl); (case hr => first | (go_simp; done) | (go_simp; rfl)); intro gb hggb w4 hbox hb; clear hggb; have BX1 := Aside0.mk hbox; have n0_ := Aside0.mk (below_step HB.out hb); have n1_ := Aside0.mk (blk_below BX0.out hb); clear HB BX0 hbox hb; have HB := n0_; have BX0 := n1_; clear n0_ n1_; have p0 : w4.cell? ⟨ga, 0, none⟩ = _ := (blk_cell BX0.out 0).trans rfl; have q0 : w4.cell? ⟨gb, 0, none⟩ = _ := (blk_cell BX1.out 0).trans rfl; have p1 : w4.cell? ⟨ga, 1, none⟩ = _ := (blk_cell BX0.out 1).trans rfl; have q1 : w4.cell? ⟨gb, 1, none⟩ = _ := (blk_cell BX1.out 1).trans rfl; have p2 : w4.cell? ⟨ga, 2, none⟩ = _ := (blk_cell BX0.out 2).trans rfl; have q2 : w4.cell? ⟨gb, 2, none⟩ = _ := (blk_cell BX1.out 2).trans rfl; have p3 : w4.cell? ⟨ga, 3, none⟩ = _ := (blk_cell BX0.out 3).trans rfl; have q3 : w4.cell? ⟨gb, 3, none⟩ = _ := (blk_cell BX1.out 3).trans rfl; have p4 : w4.cell? ⟨ga, 4, none⟩ = _ := (blk_cell BX0.out 4).trans rfl; have q4 : w4.cell? ⟨gb, 4, none⟩ = _ := (blk_cell BX1.out 4).trans rfl; have p5 : w4.cell? ⟨ga, 5, none⟩ = _ := (blk_cell BX0.out 5).trans rfl; have q5 : w4.cell? ⟨gb, 5, none⟩ = _ := (blk_cell BX1.out 5).trans rfl) | (go_at_call 49; go_loud ((with_reducible refine (SameWindow_calls X.f2 Y.f2 _ _ _ _ _ _ _ _ _ (Kd.C_below HR3.out HB.out) HC3.out (Kd.C_below HS3.out HB.out) HD3.out (Kd.C_below HR4.out HB.out) HC4.out (Kd.C_below HS4.out HB.out) HD4.out HW0.out HW1.out).mono ?_); rintro e w5 ⟨rfl, hb⟩; have n0_ := Aside0.mk (below_step HB.out hb); have n1_ := Aside0.mk (blk_below BX0.out hb); have n2_ := Aside0.mk (blk_below BX1.out hb); clear HB BX0 BX1 p0 q0 p1 q1 p2 q2 p3 q3 p4 q4 p5 q5; have HB := n0_; have BX0 := n1_; have BX1 := n2_; clear n0_ n1_ n2_ hb; have p0 : w5.cell? ⟨ga, 0, none⟩ = _ := (blk_cell BX0.out 0).trans rfl; have q0 : w5.cell? ⟨gb, 0, none⟩ = _ := (blk_cell BX1.out 0).trans rfl; have p1 : w5.cell? ⟨ga, 1, none⟩ = _ := (blk_cell BX0.out 1).trans rfl; have q1 : w5.cell? ⟨gb, 1, none⟩ = _ := (blk_cell BX1.out 1).trans rfl; have p2 : w5.cell? ⟨ga, 2, none⟩ = _ := (blk_cell BX0.out 2).trans rfl; have q2 : w5.cell? ⟨gb, 2, none⟩ = _ := (blk_cell BX1.out 2).trans rfl; have p3 : w5.cell? ⟨ga, 3, none⟩ = _ := (blk_cell BX0.out 3).trans rfl; have q3 : w5.cell? ⟨gb, 3, none⟩ = _ := (blk_cell BX1.out 3).trans rfl; have p4 : w5.cell? ⟨ga, 4, none⟩ = _ := (blk_cell BX0.out 4).trans rfl; have q4 : w5.cell? ⟨gb, 4, none⟩ = _ := (blk_cell BX1.out 4).trans rfl; have p5 : w5.cell? ⟨ga, 5, none⟩ = _ := (blk_cell BX0.out 5).trans rfl; have q5 : w5.cell? ⟨gb, 5, none⟩ = _ := (blk_cell BX1.out 5).trans rfl)))
          go_ret
          exact ⟨by rw [HE.out]; rfl, (by repeat (with_reducible first | exact HB.out | apply below_alloc | apply pw_below_drewN | (refine Below.setCell ?_ HB.out.size _)))⟩
        | true =>
          have f0_0 : (X.f0.toList != Y.f0.toList) = false := by simp only [bne, t0]; rfl
          have f1_0 : ((X.f1.length : Int) != (Y.f1.length : Int)) = false := by have h := t1; simp only [decide_eq_true_eq, decide_eq_false_iff_not] at h; simp; omega
          have f2_0 : ((X.f3.length : Int) != (Y.f3.length : Int)) = false := by have h := t2; simp only [decide_eq_true_eq, decide_eq_false_iff_not] at h; simp; omega
          go_enter Try.func16, Try.ntmps16
          have HLEN : Aside0 (X.f1.length = Y.f1.length) := ⟨by simpa using t1⟩; have HLEN2 : Aside0 (X.f3.length = Y.f3.length) := ⟨by simpa using t2⟩; have HT0 := Aside0.mk t0; have HT3 := Aside0.mk t3
          go_wp2_with (first | ((with_reducible refine gate_dst (N := 2) rfl ?_); refine box_event ?hg (N := 2) ?hd (cs := #[.string X.f0, .slice A1 X.f1.length c1, .int .i64 X.f2.f0, .slice A3 X.f2.f1.length c3, .slice A4 X.f2.f2.length c4, .slice A5 X.f3.length c5]) (t := 64) ?hr ?_; (case hd => rfl); (case hg => rfl); (case hr => first | (go_simp; done) | (go_simp; rfl)); intro ga hgga w3 hbox hb; clear hgga; have BX0 := Aside0.mk hbox; have n0_ := Aside0.mk (below_step HB.out hb); clear HB hbox hb; have HB := n0_; clear n0_) | ((with_reducible refine gate_dst (N := 3) rfl ?_); refine box_event ?hg (N := 3) ?hd (cs := #[.string Y.f0, .slice B1 Y.f1.length d1, .int .i64 Y.f2.f0, .slice B3 Y.f2.f1.length d3, .slice B4 Y.f2.f2.length d4, .slice B5 Y.f3.length d5]) (t := 64) ?hr ?_; (case hd => rfl); (case hg => rfl); (case hr => first | (go_simp; done) | (go_simp; rfl)); intro gb hggb w4 hbox hb; clear hggb; have BX1 := Aside0.mk hbox; have n0_ := Aside0.mk (below_step HB.out hb); have n1_ := Aside0.mk (blk_below BX0.out hb); clear HB BX0 hbox hb; have HB := n0_; have BX0 := n1_; clear n0_ n1_; have p0 : w4.cell? ⟨ga, 0, none⟩ = _ := (blk_cell BX0.out 0).trans rfl; have q0 : w4.cell? ⟨gb, 0, none⟩ = _ := (blk_cell BX1.out 0).trans rfl; have p1 : w4.cell? ⟨ga, 1, none⟩ = _ := (blk_cell BX0.out 1).trans rfl; have q1 : w4.cell? ⟨gb, 1, none⟩ = _ := (blk_cell BX1.out 1).trans rfl; have p2 : w4.cell? ⟨ga, 2, none⟩ = _ := (blk_cell BX0.out 2).trans rfl; have q2 : w4.cell? ⟨gb, 2, none⟩ = _ := (blk_cell BX1.out 2).trans rfl; have p3 : w4.cell? ⟨ga, 3, none⟩ = _ := (blk_cell BX0.out 3).trans rfl; have q3 : w4.cell? ⟨gb, 3, none⟩ = _ := (blk_cell BX1.out 3).trans rfl; have p4 : w4.cell? ⟨ga, 4, none⟩ = _ := (blk_cell BX0.out 4).trans rfl; have q4 : w4.cell? ⟨gb, 4, none⟩ = _ := (blk_cell BX1.out 4).trans rfl; have p5 : w4.cell? ⟨ga, 5, none⟩ = _ := (blk_cell BX0.out 5).trans rfl; have q5 : w4.cell? ⟨gb, 5, none⟩ = _ := (blk_cell BX1.out 5).trans rfl) | (go_at_call 49; go_loud ((with_reducible refine (SameWindow_calls X.f2 Y.f2 _ _ _ _ _ _ _ _ _ (Kd.C_below HR3.out HB.out) HC3.out (Kd.C_below HS3.out HB.out) HD3.out (Kd.C_below HR4.out HB.out) HC4.out (Kd.C_below HS4.out HB.out) HD4.out HW0.out HW1.out).mono ?_); rintro e w5 ⟨rfl, hb⟩; have n0_ := Aside0.mk (below_step HB.out hb); have n1_ := Aside0.mk (blk_below BX0.out hb); have n2_ := Aside0.mk (blk_below BX1.out hb); clear HB BX0 BX1 p0 q0 p1 q1 p2 q2 p3 q3 p4 q4 p5 q5; have HB := n0_; have BX0 := n1_; have BX1 := n2_; clear n0_ n1_ n2_ hb; have p0 : w5.cell? ⟨ga, 0, none⟩ = _ := (blk_cell BX0.out 0).trans rfl; have q0 : w5.cell? ⟨gb, 0, none⟩ = _ := (blk_cell BX1.out 0).trans rfl; have p1 : w5.cell? ⟨ga, 1, none⟩ = _ := (blk_cell BX0.out 1).trans rfl; have q1 : w5.cell? ⟨gb, 1, none⟩ = _ := (blk_cell BX1.out 1).trans rfl; have p2 : w5.cell? ⟨ga, 2, none⟩ = _ := (blk_cell BX0.out 2).trans rfl; have q2 : w5.cell? ⟨gb, 2, none⟩ = _ := (blk_cell BX1.out 2).trans rfl; have p3 : w5.cell? ⟨ga, 3, none⟩ = _ := (blk_cell BX0.out 3).trans rfl; have q3 : w5.cell? ⟨gb, 3, none⟩ = _ := (blk_cell BX1.out 3).trans rfl; have p4 : w5.cell? ⟨ga, 4, none⟩ = _ := (blk_cell BX0.out 4).trans rfl; have q4 : w5.cell? ⟨gb, 4, none⟩ = _ := (blk_cell BX1.out 4).trans rfl; have p5 : w5.cell? ⟨ga, 5, none⟩ = _ := (blk_cell BX0.out 5).trans rfl; have q5 : w5.cell? ⟨gb, 5, none⟩ = _ := (blk_cell BX1.out 5).trans rfl)))
          clear t0 t1 t2 t3
          go_loopw [5] (fun i wr => ∃ k : Nat, k ≤ X.f1.length ∧ i = .int .i64 k ∧ Aside0 (eqL eA (X.f1.drop k) (Y.f1.drop k) = eqL eA X.f1 Y.f1) ∧ Aside0 (Below w.heap.size w wr) ∧ Aside0 (wr.heap[ga]? = some (.cells #[.string X.f0, .slice A1 X.f1.length c1, .int .i64 X.f2.f0, .slice A3 X.f2.f1.length c3, .slice A4 X.f2.f2.length c4, .slice A5 X.f3.length c5] 64 (0, 0))) ∧ Aside0 (wr.heap[gb]? = some (.cells #[.string Y.f0, .slice B1 Y.f1.length d1, .int .i64 Y.f2.f0, .slice B3 Y.f2.f1.length d3, .slice B4 Y.f2.f2.length d4, .slice B5 Y.f3.length d5] 64 (0, 0)))) (fun i _ => X.f1.length - (intOf i).toNat)
          case atStart => exact ⟨0, Nat.zero_le _, rfl, ⟨rfl⟩, HB, BX0, BX1⟩
          case round =>
            clear HB BX0 BX1 p0 q0 p1 q1 p2 q2 p3 q3 p4 q4 p5 q5
            obtain ⟨k, hk, rfl, HQ, HB, BX0, BX1⟩ := hrel
            obtain ⟨wo, hwo⟩ : ∃ x, x = wr := ⟨_, rfl⟩; subst hwo
            have p0 : wo.cell? ⟨ga, 0, none⟩ = _ := (blk_cell BX0.out 0).trans rfl; have q0 : wo.cell? ⟨gb, 0, none⟩ = _ := (blk_cell BX1.out 0).trans rfl; have p1 : wo.cell? ⟨ga, 1, none⟩ = _ := (blk_cell BX0.out 1).trans rfl; have q1 : wo.cell? ⟨gb, 1, none⟩ = _ := (blk_cell BX1.out 1).trans rfl; have p2 : wo.cell? ⟨ga, 2, none⟩ = _ := (blk_cell BX0.out 2).trans rfl; have q2 : wo.cell? ⟨gb, 2, none⟩ = _ := (blk_cell BX1.out 2).trans rfl; have p3 : wo.cell? ⟨ga, 3, none⟩ = _ := (blk_cell BX0.out 3).trans rfl; have q3 : wo.cell? ⟨gb, 3, none⟩ = _ := (blk_cell BX1.out 3).trans rfl; have p4 : wo.cell? ⟨ga, 4, none⟩ = _ := (blk_cell BX0.out 4).trans rfl; have q4 : wo.cell? ⟨gb, 4, none⟩ = _ := (blk_cell BX1.out 4).trans rfl; have p5 : wo.cell? ⟨ga, 5, none⟩ = _ := (blk_cell BX0.out 5).trans rfl; have q5 : wo.cell? ⟨gb, 5, none⟩ = _ := (blk_cell BX1.out 5).trans rfl
            by_cases hlt : k < X.f1.length
            · have hlt1 : k < Y.f1.length := by have := HLEN.out; omega
              obtain ⟨ad0, e_, r0, r1⟩ := at_T90 HR1.out (k : Int) (by omega) (by omega)
              obtain ⟨x, hx⟩ : ∃ z, z = rd_T90 (X.f1) k := ⟨_, rfl⟩
              rw [← hx, Int.toNat_natCast] at r0 r1
              have f0 := pw_cell_below HB.out r0; clear r0
              have f1 := pw_cell_below HB.out r1; clear r1
              subst e_
              obtain ⟨ad1, e_, s0, s1⟩ := at_T90 HS1.out (k : Int) (by omega) (by omega)
              obtain ⟨y, hy⟩ : ∃ z, z = rd_T90 (Y.f1) k := ⟨_, rfl⟩
              rw [← hy, Int.toNat_natCast] at s0 s1
              have g0 := pw_cell_below HB.out s0; clear s0
              have g1 := pw_cell_below HB.out s1; clear s1
              subst e_
              have hx' := at_k hlt hx; have hy' := at_k hlt1 hy; have HXM := Aside0.mk (List.mem_of_getElem? hx'); have HYM := Aside0.mk (List.mem_of_getElem? hy'); clear hx hy
              have HS := Aside0.mk (eqL_drop (e := eA) hx' hy'); clear hx' hy'
              cases hq : eA x y with
              | false =>
                have HE : Aside0 (eqL eA X.f1 Y.f1 = false) := ⟨by rw [← HQ.out, HS.out, hq]; rfl⟩
                clear HQ HS
                have h0_ : (!(x.f0.toList == y.f0.toList) || !(x.f1 == y.f1)) = true := by unfold eA at hq; revert hq; cases x.f0.toList == y.f0.toList <;> cases x.f1 == y.f1 <;> simp
                clear hq
                go_wp2; repeat (go_quiet (fail); try go_wp2)
                go_ret
                exact ⟨by unfold eS; rw [HE.out]; simp, (by repeat (with_reducible first | exact HB.out | apply below_alloc | apply pw_below_drewN | (refine Below.setCell ?_ HB.out.size _)))⟩
              | true =>
                have HE : Aside0 (eqL eA (X.f1.drop (k + 1)) (Y.f1.drop (k + 1)) = eqL eA X.f1 Y.f1) := ⟨by rw [← HQ.out, HS.out, hq]; rfl⟩
                clear HQ HS
                obtain rfl : x = y := by
                  unfold eA at hq
                  simp only [Bool.and_eq_true, beq_iff_eq] at hq
                  cases x; cases y; simp only at hq; obtain ⟨h1, h2⟩ := hq; rw [bytes_ext h1, h2]
                clear hq
                go_wp2; repeat (go_quiet (fail); try go_wp2)
                go_roundw
                case rel => exact ⟨k + 1, by omega, by go_num, HE, ⟨(by repeat (with_reducible first | exact HB.out | apply below_alloc | apply pw_below_drewN | (refine Below.setCell ?_ HB.out.size _)))⟩, ⟨by first | exact BX0.out | exact blk_drewN BX0.out _⟩, ⟨by first | exact BX1.out | exact blk_drewN BX1.out _⟩⟩
                case measure => simp [intOf]; omega
            · obtain rfl : k = X.f1.length := by omega
              have HE : Aside0 (eqL eA X.f1 Y.f1 = true) := ⟨by rw [← HQ.out]; exact eqL_end HLEN.out⟩
              clear HQ
              have HE1 := HE; clear HE HLEN; have HLEN := HLEN2
              go_wp2
              go_loopw [6] (fun i wr => ∃ k : Nat, k ≤ X.f3.length ∧ i = .int .i64 k ∧ Aside0 (eqL eN (X.f3.drop k) (Y.f3.drop k) = eqL eN X.f3 Y.f3) ∧ Aside0 (Below w.heap.size w wr) ∧ Aside0 (wr.heap[ga]? = some (.cells #[.string X.f0, .slice A1 X.f1.length c1, .int .i64 X.f2.f0, .slice A3 X.f2.f1.length c3, .slice A4 X.f2.f2.length c4, .slice A5 X.f3.length c5] 64 (0, 0))) ∧ Aside0 (wr.heap[gb]? = some (.cells #[.string Y.f0, .slice B1 Y.f1.length d1, .int .i64 Y.f2.f0, .slice B3 Y.f2.f1.length d3, .slice B4 Y.f2.f2.length d4, .slice B5 Y.f3.length d5] 64 (0, 0)))) (fun i _ => X.f3.length - (intOf i).toNat)
              case atStart => exact ⟨0, Nat.zero_le _, rfl, ⟨rfl⟩, HB, BX0, BX1⟩
              case round =>
                clear HB BX0 BX1 p0 q0 p1 q1 p2 q2 p3 q3 p4 q4 p5 q5
                obtain ⟨k, hk, rfl, HQ, HB, BX0, BX1⟩ := hrel
                obtain ⟨wo, hwo⟩ : ∃ x, x = wr := ⟨_, rfl⟩; subst hwo
                have p0 : wo.cell? ⟨ga, 0, none⟩ = _ := (blk_cell BX0.out 0).trans rfl; have q0 : wo.cell? ⟨gb, 0, none⟩ = _ := (blk_cell BX1.out 0).trans rfl; have p1 : wo.cell? ⟨ga, 1, none⟩ = _ := (blk_cell BX0.out 1).trans rfl; have q1 : wo.cell? ⟨gb, 1, none⟩ = _ := (blk_cell BX1.out 1).trans rfl; have p2 : wo.cell? ⟨ga, 2, none⟩ = _ := (blk_cell BX0.out 2).trans rfl; have q2 : wo.cell? ⟨gb, 2, none⟩ = _ := (blk_cell BX1.out 2).trans rfl; have p3 : wo.cell? ⟨ga, 3, none⟩ = _ := (blk_cell BX0.out 3).trans rfl; have q3 : wo.cell? ⟨gb, 3, none⟩ = _ := (blk_cell BX1.out 3).trans rfl; have p4 : wo.cell? ⟨ga, 4, none⟩ = _ := (blk_cell BX0.out 4).trans rfl; have q4 : wo.cell? ⟨gb, 4, none⟩ = _ := (blk_cell BX1.out 4).trans rfl; have p5 : wo.cell? ⟨ga, 5, none⟩ = _ := (blk_cell BX0.out 5).trans rfl; have q5 : wo.cell? ⟨gb, 5, none⟩ = _ := (blk_cell BX1.out 5).trans rfl
                by_cases hlt : k < X.f3.length
                · have hlt1 : k < Y.f3.length := by have := HLEN.out; omega
                  obtain ⟨ad0, c2, e0, _, hK0, hc_0⟩ := Kd.C_get HR5.out (0 : Int) (k : Int) (by omega) (by omega)
                  obtain ⟨ad1, c3, e1, _, hK1, hc_1⟩ := Kd.C_get HS5.out (0 : Int) (k : Int) (by omega) (by omega)
                  subst e0 e1; obtain rfl : c2 = _ := hK0; obtain rfl : c3 = _ := hK1
                  obtain ⟨x, hx⟩ : ∃ z, z = (X.f3).getD ((k : Int).toNat) 0 := ⟨_, rfl⟩; obtain ⟨y, hy⟩ : ∃ z, z = (Y.f3).getD ((k : Int).toNat) 0 := ⟨_, rfl⟩
                  have f0 := pw_cell_below HB.out (hc_0 0 _ rfl); have g0_ := pw_cell_below HB.out (hc_1 0 _ rfl)
                  rw [show (Kd.int .i64).sz = 1 from rfl, Nat.mul_one, Nat.add_zero, Int.toNat_natCast] at f0 g0_; rw [show (X.f3).getD k 0 = x by rw [hx, Int.toNat_natCast]] at f0; rw [show (Y.f3).getD k 0 = y by rw [hy, Int.toNat_natCast]] at g0_
                  have hx' := at_k hlt hx; have hy' := at_k hlt1 hy; clear hc_0 hc_1 hx hy
                  have HS := Aside0.mk (eqL_drop (e := eN) hx' hy'); clear hx' hy'
                  cases hq : eN x y with
                  | false =>
                    have HE : Aside0 (eqL eN X.f3 Y.f3 = false) := ⟨by rw [← HQ.out, HS.out, hq]; rfl⟩
                    clear HQ HS
                    have h0_ : (x == y) = false := by exact hq
                    have h1_ : (x != y) = true := by unfold eN at hq; simp [bne, hq]
                    clear hq
                    go_wp2; repeat (go_quiet (fail); try go_wp2)
                    go_ret
                    exact ⟨by unfold eS; rw [HE.out]; simp, (by repeat (with_reducible first | exact HB.out | apply below_alloc | apply pw_below_drewN | (refine Below.setCell ?_ HB.out.size _)))⟩
                  | true =>
                    have HE : Aside0 (eqL eN (X.f3.drop (k + 1)) (Y.f3.drop (k + 1)) = eqL eN X.f3 Y.f3) := ⟨by rw [← HQ.out, HS.out, hq]; rfl⟩
                    clear HQ HS
                    obtain rfl : x = y := by simpa [eN] using hq
                    clear hq
                    go_wp2; repeat (go_quiet (fail); try go_wp2)
                    go_roundw
                    case rel => exact ⟨k + 1, by omega, by go_num, HE, ⟨(by repeat (with_reducible first | exact HB.out | apply below_alloc | apply pw_below_drewN | (refine Below.setCell ?_ HB.out.size _)))⟩, ⟨by first | exact BX0.out | exact blk_drewN BX0.out _⟩, ⟨by first | exact BX1.out | exact blk_drewN BX1.out _⟩⟩
                    case measure => simp [intOf]; omega
                · obtain rfl : k = X.f3.length := by omega
                  have HE : Aside0 (eqL eN X.f3 Y.f3 = true) := ⟨by rw [← HQ.out]; exact eqL_end HLEN.out⟩
                  clear HQ
                  go_wp2
                  go_ret
                  exact ⟨by have h3 := HT3.out; unfold eW at h3; simp only [Bool.and_eq_true] at h3; unfold eS; rw [HT0.out, HE1.out, h3.1, h3.2.1, h3.2.2, HE.out]; rfl, (by repeat (with_reducible first | exact HB.out | apply below_alloc | apply pw_below_drewN | (refine Below.setCell ?_ HB.out.size _)))⟩
theorem refSame_calls (au bu : Int) (ls ms : List S64) (lr mr : List S72) (lg mg : List S66) (A1 : Option Addr) (c1 : Nat) (B1 : Option Addr) (d1 : Nat) (A2 : Option Addr) (c2 : Nat) (B2 : Option Addr) (d2 : Nat) (A3 : Option Addr) (c3 : Nat) (B3 : Option Addr) (d3 : Nat) (w : World) (hr1 : Kd.C k64 w A1 ls.length ls) (hc1 : ls.length ≤ c1) (hs1 : Kd.C k64 w B1 ms.length ms) (hd1 : ms.length ≤ d1) (hr2 : Kd.C k72 w A2 lr.length lr) (hc2 : lr.length ≤ c2) (hs2 : Kd.C k72 w B2 mr.length mr) (hd2 : mr.length ≤ d2) (hr3 : Kd.C k66 w A3 lg.length lg) (hc3 : lg.length ≤ c3) (hs3 : Kd.C k66 w B3 mg.length mg) (hd3 : mg.length ≤ d3) (hw0 : (∀ z ∈ ls, wS z) ∧ ∀ z ∈ lr, wM z) (hw1 : (∀ z ∈ ms, wS z) ∧ ∀ z ∈ mr, wM z) :
    Calls Try.prog 6 #[.agg #[.int .i64 au, .slice A1 ls.length c1, .slice A2 lr.length c2, .slice A3 lg.length c3], .agg #[.int .i64 bu, .slice B1 ms.length d1, .slice B2 mr.length d2, .slice B3 mg.length d3]] w fun e w' => e = .returned (.bool (eI au bu ls ms lr mr lg mg)) ∧ Below w.heap.size w w' := by
  have hm0 := hr1.2.1; have hm1 := hr3.2.1
  have HR1 := Aside0.mk hr1; have HC1 := Aside0.mk hc1; have HS1 := Aside0.mk hs1; have HD1 := Aside0.mk hd1
  have HR2 := Aside0.mk hr2; have HC2 := Aside0.mk hc2; have HS2 := Aside0.mk hs2; have HD2 := Aside0.mk hd2
  have HR3 := Aside0.mk hr3; have HC3 := Aside0.mk hc3; have HS3 := Aside0.mk hs3; have HD3 := Aside0.mk hd3
  have HW0 := Aside0.mk hw0; have HW1 := Aside0.mk hw1; have HB := Aside0.mk (Below.refl w.heap.size w)
  clear hw0 hw1 hr1 hc1 hs1 hd1 hr2 hc2 hs2 hd2 hr3 hc3 hs3 hd3
  have hu := Try.underlying66
  cases t0 : (au == bu) with
  | false =>
    have HE : Aside0 ((eI au bu ls ms lr mr lg mg) = false) := ⟨by unfold eI; rw [t0]; rfl⟩
    have f0_0 : (au != bu) = true := by simp only [bne, t0]; rfl
    go_enter Try.func6, Try.ntmps6
    go_wp2_with (first | ((with_reducible refine gate_dst (N := 2) rfl ?_); refine box_event ?hg (N := 2) ?hd (cs := #[.int .i64 au, .slice A1 ls.length c1, .slice A2 lr.length c2, .slice A3 lg.length c3]) (t := 26) ?hr ?_; (case hd => rfl); (case hg => rfl); (case hr => first | (go_simp; done) | (go_simp; rfl)); intro ga hgga w3 hbox hb; clear hgga; have BX0 := Aside0.mk hbox; have n0_ := Aside0.mk (below_step HB.out hb); clear HB hbox hb; have HB := n0_; clear n0_) | ((with_reducible refine gate_dst (N := 3) rfl ?_); refine box_event ?hg (N := 3) ?hd (cs := #[.int .i64 bu, .slice B1 ms.length d1, .slice B2 mr.length d2, .slice B3 mg.length d3]) (t := 26) ?hr ?_; (case hd => rfl); (case hg => rfl); (case hr => first | (go_simp; done) | (go_simp; rfl)); intro gb hggb w4 hbox hb; clear hggb; have BX1 := Aside0.mk hbox; have n0_ := Aside0.mk (below_step HB.out hb); have n1_ := Aside0.mk (blk_below BX0.out hb); clear HB BX0 hbox hb; have HB := n0_; have BX0 := n1_; clear n0_ n1_; have p0 : w4.cell? ⟨ga, 0, none⟩ = _ := (blk_cell BX0.out 0).trans rfl; have q0 : w4.cell? ⟨gb, 0, none⟩ = _ := (blk_cell BX1.out 0).trans rfl; have p1 : w4.cell? ⟨ga, 1, none⟩ = _ := (blk_cell BX0.out 1).trans rfl; have q1 : w4.cell? ⟨gb, 1, none⟩ = _ := (blk_cell BX1.out 1).trans rfl; have p2 : w4.cell? ⟨ga, 2, none⟩ = _ := (blk_cell BX0.out 2).trans rfl; have q2 : w4.cell? ⟨gb, 2, none⟩ = _ := (blk_cell BX1.out 2).trans rfl; have p3 : w4.cell? ⟨ga, 3, none⟩ = _ := (blk_cell BX0.out 3).trans rfl; have q3 : w4.cell? ⟨gb, 3, none⟩ = _ := (blk_cell BX1.out 3).trans rfl))
    go_ret
    exact ⟨by rw [HE.out]; rfl, (by repeat (with_reducible first | exact HB.out | apply below_alloc | apply pw_below_drewN | (refine Below.setCell ?_ HB.out.size _)))⟩
  | true =>
    cases t1 : (decide (ls.length = ms.length)) with
    | false =>
      have HE : Aside0 ((eI au bu ls ms lr mr lg mg) = false) := ⟨by unfold eI; rw [eqL_ne (l := ls) (m := ms) (by simpa using t1)]; simp⟩
      have f0_0 : (au != bu) = false := by simp only [bne, t0]; rfl
      have f1_0 : ((ls.length : Int) != (ms.length : Int)) = true := by have h := t1; simp only [decide_eq_true_eq, decide_eq_false_iff_not] at h; simp; omega
      go_enter Try.func6, Try.ntmps6
      go_wp2_with (first | ((with_reducible refine gate_dst (N := 2) rfl ?_); refine box_event ?hg (N := 2) ?hd (cs := #[.int .i64 au, .slice A1 ls.length c1, .slice A2 lr.length c2, .slice A3 lg.length c3]) (t := 26) ?hr ?_; (case hd => rfl); (case hg => rfl); (case hr => first | (go_simp; done) | (go_simp; rfl)); intro ga hgga w3 hbox hb; clear hgga; have BX0 := Aside0.mk hbox; have n0_ := Aside0.mk (below_step HB.out hb); clear HB hbox hb; have HB := n0_; clear n0_) | ((with_reducible refine gate_dst (N := 3) rfl ?_); refine box_event ?hg (N := 3) ?hd (cs := #[.int .i64 bu, .slice B1 ms.length d1, .slice B2 mr.length d2, .slice B3 mg.length d3]) (t := 26) ?hr ?_; (case hd => rfl); (case hg => rfl); (case hr => first | (go_simp; done) | (go_simp; rfl)); intro gb hggb w4 hbox hb; clear hggb; have BX1 := Aside0.mk hbox; have n0_ := Aside0.mk (below_step HB.out hb); have n1_ := Aside0.mk (blk_below BX0.out hb); clear HB BX0 hbox hb; have HB := n0_; have BX0 := n1_; clear n0_ n1_; have p0 : w4.cell? ⟨ga, 0, none⟩ = _ := (blk_cell BX0.out 0).trans rfl; have q0 : w4.cell? ⟨gb, 0, none⟩ = _ := (blk_cell BX1.out 0).trans rfl; have p1 : w4.cell? ⟨ga, 1, none⟩ = _ := (blk_cell BX0.out 1).trans rfl; have q1 : w4.cell? ⟨gb, 1, none⟩ = _ := (blk_cell BX1.out 1).trans rfl; have p2 : w4.cell? ⟨ga, 2, none⟩ = _ := (blk_cell BX0.out 2).trans rfl; have q2 : w4.cell? ⟨gb, 2, none⟩ = _ := (blk_cell BX1.out 2).trans rfl; have p3 : w4.cell? ⟨ga, 3, none⟩ = _ := (blk_cell BX0.out 3).trans rfl; have q3 : w4.cell? ⟨gb, 3, none⟩ = _ := (blk_cell BX1.out 3).trans rfl))
      go_ret
      exact ⟨by rw [HE.out]; rfl, (by repeat (with_reducible first | exact HB.out | apply below_alloc | apply pw_below_drewN | (refine Below.setCell ?_ HB.out.size _)))⟩
    | true =>
      have f0_0 : (au != bu) = false := by simp only [bne, t0]; rfl
      have f1_0 : ((ls.length : Int) != (ms.length : Int)) = false := by have h := t1; simp only [decide_eq_true_eq, decide_eq_false_iff_not] at h; simp; omega
      go_enter Try.func6, Try.ntmps6
      have HLEN : Aside0 (ls.length = ms.length) := ⟨by simpa using t1⟩; have HT0 := Aside0.mk t0
      go_wp2_with (first | ((with_reducible refine gate_dst (N := 2) rfl ?_); refine box_event ?hg (N := 2) ?hd (cs := #[.int .i64 au, .slice A1 ls.length c1, .slice A2 lr.length c2, .slice A3 lg.length c3]) (t := 26) ?hr ?_; (case hd => rfl); (case hg => rfl); (case hr => first | (go_simp; done) | (go_simp; rfl)); intro ga hgga w3 hbox hb; clear hgga; have BX0 := Aside0.mk hbox; have n0_ := Aside0.mk (below_step HB.out hb); clear HB hbox hb; have HB := n0_; clear n0_) | ((with_reducible refine gate_dst (N := 3) rfl ?_); refine box_event ?hg (N := 3) ?hd (cs := #[.int .i64 bu, .slice B1 ms.length d1, .slice B2 mr.length d2, .slice B3 mg.length d3]) (t := 26) ?hr ?_; (case hd => rfl); (case hg => rfl); (case hr => first | (go_simp; done) | (go_simp; rfl)); intro gb hggb w4 hbox hb; clear hggb; have BX1 := Aside0.mk hbox; have n0_ := Aside0.mk (below_step HB.out hb); have n1_ := Aside0.mk (blk_below BX0.out hb); clear HB BX0 hbox hb; have HB := n0_; have BX0 := n1_; clear n0_ n1_; have p0 : w4.cell? ⟨ga, 0, none⟩ = _ := (blk_cell BX0.out 0).trans rfl; have q0 : w4.cell? ⟨gb, 0, none⟩ = _ := (blk_cell BX1.out 0).trans rfl; have p1 : w4.cell? ⟨ga, 1, none⟩ = _ := (blk_cell BX0.out 1).trans rfl; have q1 : w4.cell? ⟨gb, 1, none⟩ = _ := (blk_cell BX1.out 1).trans rfl; have p2 : w4.cell? ⟨ga, 2, none⟩ = _ := (blk_cell BX0.out 2).trans rfl; have q2 : w4.cell? ⟨gb, 2, none⟩ = _ := (blk_cell BX1.out 2).trans rfl; have p3 : w4.cell? ⟨ga, 3, none⟩ = _ := (blk_cell BX0.out 3).trans rfl; have q3 : w4.cell? ⟨gb, 3, none⟩ = _ := (blk_cell BX1.out 3).trans rfl))
      clear t0 t1
      go_loopw [5] (fun i wr => ∃ k : Nat, k ≤ ls.length ∧ i = .int .i64 k ∧ Aside0 (eqL eS (ls.drop k) (ms.drop k) = eqL eS ls ms) ∧ Aside0 (Below w.heap.size w wr) ∧ Aside0 (wr.heap[ga]? = some (.cells #[.int .i64 au, .slice A1 ls.length c1, .slice A2 lr.length c2, .slice A3 lg.length c3] 26 (0, 0))) ∧ Aside0 (wr.heap[gb]? = some (.cells #[.int .i64 bu, .slice B1 ms.length d1, .slice B2 mr.length d2, .slice B3 mg.length d3] 26 (0, 0)))) (fun i _ => ls.length - (intOf i).toNat)
      case atStart => exact ⟨0, Nat.zero_le _, rfl, ⟨rfl⟩, HB, BX0, BX1⟩
      case round =>
        clear HB BX0 BX1 p0 q0 p1 q1 p2 q2 p3 q3
        obtain ⟨k, hk, rfl, HQ, HB, BX0, BX1⟩ := hrel
        obtain ⟨wo, hwo⟩ : ∃ x, x = wr := ⟨_, rfl⟩; subst hwo
        have p0 : wo.cell? ⟨ga, 0, none⟩ = _ := (blk_cell BX0.out 0).trans rfl; have q0 : wo.cell? ⟨gb, 0, none⟩ = _ := (blk_cell BX1.out 0).trans rfl; have p1 : wo.cell? ⟨ga, 1, none⟩ = _ := (blk_cell BX0.out 1).trans rfl; have q1 : wo.cell? ⟨gb, 1, none⟩ = _ := (blk_cell BX1.out 1).trans rfl; have p2 : wo.cell? ⟨ga, 2, none⟩ = _ := (blk_cell BX0.out 2).trans rfl; have q2 : wo.cell? ⟨gb, 2, none⟩ = _ := (blk_cell BX1.out 2).trans rfl; have p3 : wo.cell? ⟨ga, 3, none⟩ = _ := (blk_cell BX0.out 3).trans rfl; have q3 : wo.cell? ⟨gb, 3, none⟩ = _ := (blk_cell BX1.out 3).trans rfl
        by_cases hlt : k < ls.length
        · have hlt1 : k < ms.length := by have := HLEN.out; omega
          obtain ⟨ad0, E1, e1, E3, e3, E4, e4, E5, e5, e_, r0, r1, r2, r3, r4, r5, l1_, g1_, l3_, g3_, l4_, g4_, l5_, g5_⟩ := at_T64 HR1.out (k : Int) (by omega) (by omega)
          obtain ⟨x, hx⟩ : ∃ z, z = rd_T64 (ls) k := ⟨_, rfl⟩
          rw [← hx, Int.toNat_natCast] at r0 r1 r2 r3 r4 r5
          rw [← hx] at l1_ g1_ l3_ g3_ l4_ g4_ l5_ g5_
          have f0 := pw_cell_below HB.out r0; clear r0
          have f1 := pw_cell_below HB.out r1; clear r1
          have f2 := pw_cell_below HB.out r2; clear r2
          have f3 := pw_cell_below HB.out r3; clear r3
          have f4 := pw_cell_below HB.out r4; clear r4
          have f5 := pw_cell_below HB.out r5; clear r5
          have LE1 := Aside0.mk l1_; have GE1 := Aside0.mk g1_; clear l1_ g1_
          have LE3 := Aside0.mk l3_; have GE3 := Aside0.mk g3_; clear l3_ g3_
          have LE4 := Aside0.mk l4_; have GE4 := Aside0.mk g4_; clear l4_ g4_
          have LE5 := Aside0.mk l5_; have GE5 := Aside0.mk g5_; clear l5_ g5_
          subst e_
          obtain ⟨ad1, F1, u1, F3, u3, F4, u4, F5, u5, e_, s0, s1, s2, s3, s4, s5, l1_, g1_, l3_, g3_, l4_, g4_, l5_, g5_⟩ := at_T64 HS1.out (k : Int) (by omega) (by omega)
          obtain ⟨y, hy⟩ : ∃ z, z = rd_T64 (ms) k := ⟨_, rfl⟩
          rw [← hy, Int.toNat_natCast] at s0 s1 s2 s3 s4 s5
          rw [← hy] at l1_ g1_ l3_ g3_ l4_ g4_ l5_ g5_
          have g0 := pw_cell_below HB.out s0; clear s0
          have g1 := pw_cell_below HB.out s1; clear s1
          have g2 := pw_cell_below HB.out s2; clear s2
          have g3 := pw_cell_below HB.out s3; clear s3
          have g4 := pw_cell_below HB.out s4; clear s4
          have g5 := pw_cell_below HB.out s5; clear s5
          have LF1 := Aside0.mk l1_; have GF1 := Aside0.mk g1_; clear l1_ g1_
          have LF3 := Aside0.mk l3_; have GF3 := Aside0.mk g3_; clear l3_ g3_
          have LF4 := Aside0.mk l4_; have GF4 := Aside0.mk g4_; clear l4_ g4_
          have LF5 := Aside0.mk l5_; have GF5 := Aside0.mk g5_; clear l5_ g5_
          subst e_
          have hx' := at_k hlt hx; have hy' := at_k hlt1 hy; have HXM := Aside0.mk (List.mem_of_getElem? hx'); have HYM := Aside0.mk (List.mem_of_getElem? hy'); clear hx hy
          have HS := Aside0.mk (eqL_drop (e := eS) hx' hy'); clear hx' hy'
          cases hq : eS x y with
          | false =>
            have HE : Aside0 (eqL eS ls ms = false) := ⟨by rw [← HQ.out, HS.out, hq]; rfl⟩
            clear HQ HS
            have HWX : Aside0 (wS x) := ⟨HW0.out.1 x HXM.out⟩; have HWY : Aside0 (wS y) := ⟨HW1.out.1 y HYM.out⟩; have HQB := Aside0.mk hq; clear hq
            go_upto_region 6 with (fail)
            refine wp_region_noPanic ?_
            refine wp_region_held_drew (S := fun W => Below wo.heap.size wo W) (by kernel_rfl) ?hS0 (fun hHeld => ?_)
            case hS0 => exact (Below.refl _ _).drew
            have HG : Aside0 (Below wo.heap.size wo _) := ⟨hHeld⟩
            refine wpAnyH_take (i := 0) (oi := { dst := some 28, op := Go.Op.fieldAddr 26 (Go.Operand.tmp 2) 1, type := 0, pos := "crierref15.go:446", after := #[], guard := none }) (v := ?v57) rfl (by kernel_rfl) (by kernel_rfl) (by kernel_rfl) (fun _ _ _ h => h) (Or.inl ⟨by rfl, ?hy57⟩) hHeld ?rest57
            case hy57 => (intro w_ hSw; (try dsimp only at hSw); (try go_simp); (try with_reducible rfl))
            try simp only [Act.put, List.setIfInBounds_toArray, List.set_cons_zero, List.set_cons_succ]
            refine wpAnyH_take (i := 1) (oi := { dst := some 29, op := Go.Op.load 22 (Go.Operand.tmp 28), type := 22, pos := "crierref15.go:446", after := #[{ on := 0, ground := Go.Ground.data }], guard := none }) (v := ?v58) rfl (by kernel_rfl) (by kernel_rfl) (by kernel_rfl) (fun _ _ _ h => h) (Or.inl ⟨by rfl, ?hy58⟩) hHeld ?rest58
            case hy58 => (intro w_ hSw; (try dsimp only at hSw); have f0_ := pw_cell_below hSw f0; have f1_ := pw_cell_below hSw f1; have f2_ := pw_cell_below hSw f2; have f3_ := pw_cell_below hSw f3; have f4_ := pw_cell_below hSw f4; have f5_ := pw_cell_below hSw f5; have g0_ := pw_cell_below hSw g0; have g1_ := pw_cell_below hSw g1; have g2_ := pw_cell_below hSw g2; have g3_ := pw_cell_below hSw g3; have g4_ := pw_cell_below hSw g4; have g5_ := pw_cell_below hSw g5; have p1_ := pw_cell_below hSw p1; have q1_ := pw_cell_below hSw q1; (try go_simp); (try with_reducible rfl))
            try simp only [Act.put, List.setIfInBounds_toArray, List.set_cons_zero, List.set_cons_succ]
            refine wpAnyH_take (i := 2) (oi := { dst := some 30, op := Go.Op.move (Go.Operand.tmp 5), type := 3, pos := "crierref15.go:446", after := #[], guard := none }) (v := ?v59) rfl (by kernel_rfl) (by kernel_rfl) (by kernel_rfl) (fun _ _ _ h => h) (Or.inl ⟨by rfl, ?hy59⟩) hHeld ?rest59
            case hy59 => (intro w_ hSw; (try dsimp only at hSw); (try go_simp); (try with_reducible rfl))
            try simp only [Act.put, List.setIfInBounds_toArray, List.set_cons_zero, List.set_cons_succ]
            refine wpAnyH_take (i := 3) (oi := { dst := some 31, op := Go.Op.indexAddr 22 (Go.Operand.tmp 29) (Go.Operand.tmp 30), type := 0, pos := "crierref15.go:446", after := #[{ on := 1, ground := Go.Ground.data }, { on := 2, ground := Go.Ground.data }], guard := none }) (v := ?v60) rfl (by kernel_rfl) (by kernel_rfl) (by kernel_rfl) (fun _ _ _ h => h) (Or.inl ⟨by rfl, ?hy60⟩) hHeld ?rest60
            case hy60 => (intro w_ hSw; (try dsimp only at hSw); (try go_simp); (try with_reducible rfl))
            try simp only [Act.put, List.setIfInBounds_toArray, List.set_cons_zero, List.set_cons_succ]
            refine wpAnyH_take (i := 4) (oi := { dst := some 32, op := Go.Op.load 64 (Go.Operand.tmp 31), type := 64, pos := "crierref15.go:446", after := #[{ on := 3, ground := Go.Ground.data }], guard := none }) (v := ?v61) rfl (by kernel_rfl) (by kernel_rfl) (by kernel_rfl) (fun _ _ _ h => h) (Or.inl ⟨by rfl, ?hy61⟩) hHeld ?rest61
            case hy61 => (intro w_ hSw; (try dsimp only at hSw); have f0_ := pw_cell_below hSw f0; have f1_ := pw_cell_below hSw f1; have f2_ := pw_cell_below hSw f2; have f3_ := pw_cell_below hSw f3; have f4_ := pw_cell_below hSw f4; have f5_ := pw_cell_below hSw f5; have g0_ := pw_cell_below hSw g0; have g1_ := pw_cell_below hSw g1; have g2_ := pw_cell_below hSw g2; have g3_ := pw_cell_below hSw g3; have g4_ := pw_cell_below hSw g4; have g5_ := pw_cell_below hSw g5; have p1_ := pw_cell_below hSw p1; have q1_ := pw_cell_below hSw q1; (try go_simp); (try with_reducible rfl))
            try simp only [Act.put, List.setIfInBounds_toArray, List.set_cons_zero, List.set_cons_succ]
            refine wpAnyH_take (i := 5) (oi := { dst := some 33, op := Go.Op.fieldAddr 26 (Go.Operand.tmp 3) 1, type := 0, pos := "crierref15.go:446", after := #[], guard := none }) (v := ?v62) rfl (by kernel_rfl) (by kernel_rfl) (by kernel_rfl) (fun _ _ _ h => h) (Or.inl ⟨by rfl, ?hy62⟩) hHeld ?rest62
            case hy62 => (intro w_ hSw; (try dsimp only at hSw); (try go_simp); (try with_reducible rfl))
            try simp only [Act.put, List.setIfInBounds_toArray, List.set_cons_zero, List.set_cons_succ]
            refine wpAnyH_take (i := 6) (oi := { dst := some 34, op := Go.Op.load 22 (Go.Operand.tmp 33), type := 22, pos := "crierref15.go:446", after := #[{ on := 5, ground := Go.Ground.data }], guard := none }) (v := ?v63) rfl (by kernel_rfl) (by kernel_rfl) (by kernel_rfl) (fun _ _ _ h => h) (Or.inl ⟨by rfl, ?hy63⟩) hHeld ?rest63
            case hy63 => (intro w_ hSw; (try dsimp only at hSw); have f0_ := pw_cell_below hSw f0; have f1_ := pw_cell_below hSw f1; have f2_ := pw_cell_below hSw f2; have f3_ := pw_cell_below hSw f3; have f4_ := pw_cell_below hSw f4; have f5_ := pw_cell_below hSw f5; have g0_ := pw_cell_below hSw g0; have g1_ := pw_cell_below hSw g1; have g2_ := pw_cell_below hSw g2; have g3_ := pw_cell_below hSw g3; have g4_ := pw_cell_below hSw g4; have g5_ := pw_cell_below hSw g5; have p1_ := pw_cell_below hSw p1; have q1_ := pw_cell_below hSw q1; (try go_simp); (try with_reducible rfl))
            try simp only [Act.put, List.setIfInBounds_toArray, List.set_cons_zero, List.set_cons_succ]
            refine wpAnyH_take (i := 7) (oi := { dst := some 35, op := Go.Op.move (Go.Operand.tmp 5), type := 3, pos := "crierref15.go:446", after := #[], guard := none }) (v := ?v64) rfl (by kernel_rfl) (by kernel_rfl) (by kernel_rfl) (fun _ _ _ h => h) (Or.inl ⟨by rfl, ?hy64⟩) hHeld ?rest64
            case hy64 => (intro w_ hSw; (try dsimp only at hSw); (try go_simp); (try with_reducible rfl))
            try simp only [Act.put, List.setIfInBounds_toArray, List.set_cons_zero, List.set_cons_succ]
            refine wpAnyH_take (i := 8) (oi := { dst := some 36, op := Go.Op.indexAddr 22 (Go.Operand.tmp 34) (Go.Operand.tmp 35), type := 0, pos := "crierref15.go:446", after := #[{ on := 6, ground := Go.Ground.data }, { on := 7, ground := Go.Ground.data }], guard := none }) (v := ?v65) rfl (by kernel_rfl) (by kernel_rfl) (by kernel_rfl) (fun _ _ _ h => h) (Or.inl ⟨by rfl, ?hy65⟩) hHeld ?rest65
            case hy65 => (intro w_ hSw; (try dsimp only at hSw); (try go_simp); (try with_reducible rfl))
            try simp only [Act.put, List.setIfInBounds_toArray, List.set_cons_zero, List.set_cons_succ]
            refine wpAnyH_take (i := 9) (oi := { dst := some 37, op := Go.Op.load 64 (Go.Operand.tmp 36), type := 64, pos := "crierref15.go:446", after := #[{ on := 8, ground := Go.Ground.data }], guard := none }) (v := ?v66) rfl (by kernel_rfl) (by kernel_rfl) (by kernel_rfl) (fun _ _ _ h => h) (Or.inl ⟨by rfl, ?hy66⟩) hHeld ?rest66
            case hy66 => (intro w_ hSw; (try dsimp only at hSw); have f0_ := pw_cell_below hSw f0; have f1_ := pw_cell_below hSw f1; have f2_ := pw_cell_below hSw f2; have f3_ := pw_cell_below hSw f3; have f4_ := pw_cell_below hSw f4; have f5_ := pw_cell_below hSw f5; have g0_ := pw_cell_below hSw g0; have g1_ := pw_cell_below hSw g1; have g2_ := pw_cell_below hSw g2; have g3_ := pw_cell_below hSw g3; have g4_ := pw_cell_below hSw g4; have g5_ := pw_cell_below hSw g5; have p1_ := pw_cell_below hSw p1; have q1_ := pw_cell_below hSw q1; (try go_simp); (try with_reducible rfl))
            try simp only [Act.put, List.setIfInBounds_toArray, List.set_cons_zero, List.set_cons_succ]
            refine wpAnyH_ready (rs := [10]) (by kernel_rfl) (by simp) ?_
            refine AllReadyH.cons (o := { dst := some 38, op := Go.Op.call { callee := Go.Callee.value (Go.Operand.func 16), args := #[Go.Operand.tmp 32, Go.Operand.tmp 37], argTypes := #[64, 64] }, type := 4, pos := "crierref15.go:446", after := #[{ on := 4, ground := Go.Ground.data }, { on := 9, ground := Go.Ground.data }], guard := none }) rfl (fun K hK => ?_) AllReadyH.nil
            go_simp
            refine (SameSession_calls x y E1 e1 F1 u1 E3 e3 F3 u3 E4 e4 F4 u4 E5 e5 F5 u5 _ (Kd.C_below GE1.out (below_step HB.out HG.out)) LE1.out (Kd.C_below GF1.out (below_step HB.out HG.out)) LF1.out (Kd.C_below GE3.out (below_step HB.out HG.out)) LE3.out (Kd.C_below GF3.out (below_step HB.out HG.out)) LF3.out (Kd.C_below GE4.out (below_step HB.out HG.out)) LE4.out (Kd.C_below GF4.out (below_step HB.out HG.out)) LF4.out (Kd.C_below GE5.out (below_step HB.out HG.out)) LE5.out (Kd.C_below GF5.out (below_step HB.out HG.out)) LF5.out HWX.out HWY.out).mono ?_
            rintro e w3 ⟨rfl, hb⟩; rw [HQB.out]
            have n0_ := Aside0.mk (below_step HG.out hb); clear HG hb; have HG := n0_; clear n0_
            refine hK.out _ _ HG.out (fun hHeld2 => ?_)
            clear hK K hHeld; have hHeld := hHeld2; clear hHeld2
            try simp only [Act.put, List.setIfInBounds_toArray, List.set_cons_zero, List.set_cons_succ]
            refine wpAnyH_take (i := 11) (oi := { dst := some 39, op := Go.Op.unOp Go.UnOp.not 4 (Go.Operand.tmp 38), type := 4, pos := "crierref15.go:446", after := #[{ on := 10, ground := Go.Ground.data }], guard := none }) (v := ?v68) rfl (by kernel_rfl) (by kernel_rfl) (by kernel_rfl) (fun _ _ _ h => h) (Or.inl ⟨by rfl, ?hy68⟩) hHeld ?rest68
            case hy68 => (intro w_ hSw; (try dsimp only at hSw); (try go_simp); (try with_reducible rfl))
            try simp only [Act.put, List.setIfInBounds_toArray, List.set_cons_zero, List.set_cons_succ]
            refine wpAnyH_done (by kernel_rfl) ?_ _
            refine NoPanic.normal ?_
            have n0_ := Aside0.mk (below_step HB.out HG.out); have n1_ := Aside0.mk (blk_below BX0.out HG.out); have n2_ := Aside0.mk (blk_below BX1.out HG.out); clear HB HG BX0 BX1; have HB := n0_; have BX0 := n1_; have BX1 := n2_; clear n0_ n1_ n2_
            go_wp2
            go_ret
            exact ⟨by unfold eI; rw [HE.out]; simp, HB.out⟩
          | true =>
            have HE : Aside0 (eqL eS (ls.drop (k + 1)) (ms.drop (k + 1)) = eqL eS ls ms) := ⟨by rw [← HQ.out, HS.out, hq]; rfl⟩
            clear HQ HS
            have HWX : Aside0 (wS x) := ⟨HW0.out.1 x HXM.out⟩; have HWY : Aside0 (wS y) := ⟨HW1.out.1 y HYM.out⟩; have HQB := Aside0.mk hq; clear hq
            go_upto_region 6 with (fail)
            refine wp_region_noPanic ?_
            refine wp_region_held_drew (S := fun W => Below wo.heap.size wo W) (by kernel_rfl) ?hS0 (fun hHeld => ?_)
            case hS0 => exact (Below.refl _ _).drew
            have HG : Aside0 (Below wo.heap.size wo _) := ⟨hHeld⟩
            refine wpAnyH_take (i := 0) (oi := { dst := some 28, op := Go.Op.fieldAddr 26 (Go.Operand.tmp 2) 1, type := 0, pos := "crierref15.go:446", after := #[], guard := none }) (v := ?v69) rfl (by kernel_rfl) (by kernel_rfl) (by kernel_rfl) (fun _ _ _ h => h) (Or.inl ⟨by rfl, ?hy69⟩) hHeld ?rest69
            case hy69 => (intro w_ hSw; (try dsimp only at hSw); (try go_simp); (try with_reducible rfl))
            try simp only [Act.put, List.setIfInBounds_toArray, List.set_cons_zero, List.set_cons_succ]
            refine wpAnyH_take (i := 1) (oi := { dst := some 29, op := Go.Op.load 22 (Go.Operand.tmp 28), type := 22, pos := "crierref15.go:446", after := #[{ on := 0, ground := Go.Ground.data }], guard := none }) (v := ?v70) rfl (by kernel_rfl) (by kernel_rfl) (by kernel_rfl) (fun _ _ _ h => h) (Or.inl ⟨by rfl, ?hy70⟩) hHeld ?rest70
            case hy70 => (intro w_ hSw; (try dsimp only at hSw); have f0_ := pw_cell_below hSw f0; have f1_ := pw_cell_below hSw f1; have f2_ := pw_cell_below hSw f2; have f3_ := pw_cell_below hSw f3; have f4_ := pw_cell_below hSw f4; have f5_ := pw_cell_below hSw f5; have g0_ := pw_cell_below hSw g0; have g1_ := pw_cell_below hSw g1; have g2_ := pw_cell_below hSw g2; have g3_ := pw_cell_below hSw g3; have g4_ := pw_cell_below hSw g4; have g5_ := pw_cell_below hSw g5; have p1_ := pw_cell_below hSw p1; have q1_ := pw_cell_below hSw q1; (try go_simp); (try with_reducible rfl))
            try simp only [Act.put, List.setIfInBounds_toArray, List.set_cons_zero, List.set_cons_succ]
            refine wpAnyH_take (i := 2) (oi := { dst := some 30, op := Go.Op.move (Go.Operand.tmp 5), type := 3, pos := "crierref15.go:446", after := #[], guard := none }) (v := ?v71) rfl (by kernel_rfl) (by kernel_rfl) (by kernel_rfl) (fun _ _ _ h => h) (Or.inl ⟨by rfl, ?hy71⟩) hHeld ?rest71
            case hy71 => (intro w_ hSw; (try dsimp only at hSw); (try go_simp); (try with_reducible rfl))
            try simp only [Act.put, List.setIfInBounds_toArray, List.set_cons_zero, List.set_cons_succ]
            refine wpAnyH_take (i := 3) (oi := { dst := some 31, op := Go.Op.indexAddr 22 (Go.Operand.tmp 29) (Go.Operand.tmp 30), type := 0, pos := "crierref15.go:446", after := #[{ on := 1, ground := Go.Ground.data }, { on := 2, ground := Go.Ground.data }], guard := none }) (v := ?v72) rfl (by kernel_rfl) (by kernel_rfl) (by kernel_rfl) (fun _ _ _ h => h) (Or.inl ⟨by rfl, ?hy72⟩) hHeld ?rest72
            case hy72 => (intro w_ hSw; (try dsimp only at hSw); (try go_simp); (try with_reducible rfl))
            try simp only [Act.put, List.setIfInBounds_toArray, List.set_cons_zero, List.set_cons_succ]
            refine wpAnyH_take (i := 4) (oi := { dst := some 32, op := Go.Op.load 64 (Go.Operand.tmp 31), type := 64, pos := "crierref15.go:446", after := #[{ on := 3, ground := Go.Ground.data }], guard := none }) (v := ?v73) rfl (by kernel_rfl) (by kernel_rfl) (by kernel_rfl) (fun _ _ _ h => h) (Or.inl ⟨by rfl, ?hy73⟩) hHeld ?rest73
            case hy73 => (intro w_ hSw; (try dsimp only at hSw); have f0_ := pw_cell_below hSw f0; have f1_ := pw_cell_below hSw f1; have f2_ := pw_cell_below hSw f2; have f3_ := pw_cell_below hSw f3; have f4_ := pw_cell_below hSw f4; have f5_ := pw_cell_below hSw f5; have g0_ := pw_cell_below hSw g0; have g1_ := pw_cell_below hSw g1; have g2_ := pw_cell_below hSw g2; have g3_ := pw_cell_below hSw g3; have g4_ := pw_cell_below hSw g4; have g5_ := pw_cell_below hSw g5; have p1_ := pw_cell_below hSw p1; have q1_ := pw_cell_below hSw q1; (try go_simp); (try with_reducible rfl))
            try simp only [Act.put, List.setIfInBounds_toArray, List.set_cons_zero, List.set_cons_succ]
            refine wpAnyH_take (i := 5) (oi := { dst := some 33, op := Go.Op.fieldAddr 26 (Go.Operand.tmp 3) 1, type := 0, pos := "crierref15.go:446", after := #[], guard := none }) (v := ?v74) rfl (by kernel_rfl) (by kernel_rfl) (by kernel_rfl) (fun _ _ _ h => h) (Or.inl ⟨by rfl, ?hy74⟩) hHeld ?rest74
            case hy74 => (intro w_ hSw; (try dsimp only at hSw); (try go_simp); (try with_reducible rfl))
            try simp only [Act.put, List.setIfInBounds_toArray, List.set_cons_zero, List.set_cons_succ]
            refine wpAnyH_take (i := 6) (oi := { dst := some 34, op := Go.Op.load 22 (Go.Operand.tmp 33), type := 22, pos := "crierref15.go:446", after := #[{ on := 5, ground := Go.Ground.data }], guard := none }) (v := ?v75) rfl (by kernel_rfl) (by kernel_rfl) (by kernel_rfl) (fun _ _ _ h => h) (Or.inl ⟨by rfl, ?hy75⟩) hHeld ?rest75
            case hy75 => (intro w_ hSw; (try dsimp only at hSw); have f0_ := pw_cell_below hSw f0; have f1_ := pw_cell_below hSw f1; have f2_ := pw_cell_below hSw f2; have f3_ := pw_cell_below hSw f3; have f4_ := pw_cell_below hSw f4; have f5_ := pw_cell_below hSw f5; have g0_ := pw_cell_below hSw g0; have g1_ := pw_cell_below hSw g1; have g2_ := pw_cell_below hSw g2; have g3_ := pw_cell_below hSw g3; have g4_ := pw_cell_below hSw g4; have g5_ := pw_cell_below hSw g5; have p1_ := pw_cell_below hSw p1; have q1_ := pw_cell_below hSw q1; (try go_simp); (try with_reducible rfl))
            try simp only [Act.put, List.setIfInBounds_toArray, List.set_cons_zero, List.set_cons_succ]
            refine wpAnyH_take (i := 7) (oi := { dst := some 35, op := Go.Op.move (Go.Operand.tmp 5), type := 3, pos := "crierref15.go:446", after := #[], guard := none }) (v := ?v76) rfl (by kernel_rfl) (by kernel_rfl) (by kernel_rfl) (fun _ _ _ h => h) (Or.inl ⟨by rfl, ?hy76⟩) hHeld ?rest76
            case hy76 => (intro w_ hSw; (try dsimp only at hSw); (try go_simp); (try with_reducible rfl))
            try simp only [Act.put, List.setIfInBounds_toArray, List.set_cons_zero, List.set_cons_succ]
            refine wpAnyH_take (i := 8) (oi := { dst := some 36, op := Go.Op.indexAddr 22 (Go.Operand.tmp 34) (Go.Operand.tmp 35), type := 0, pos := "crierref15.go:446", after := #[{ on := 6, ground := Go.Ground.data }, { on := 7, ground := Go.Ground.data }], guard := none }) (v := ?v77) rfl (by kernel_rfl) (by kernel_rfl) (by kernel_rfl) (fun _ _ _ h => h) (Or.inl ⟨by rfl, ?hy77⟩) hHeld ?rest77
            case hy77 => (intro w_ hSw; (try dsimp only at hSw); (try go_simp); (try with_reducible rfl))
            try simp only [Act.put, List.setIfInBounds_toArray, List.set_cons_zero, List.set_cons_succ]
            refine wpAnyH_take (i := 9) (oi := { dst := some 37, op := Go.Op.load 64 (Go.Operand.tmp 36), type := 64, pos := "crierref15.go:446", after := #[{ on := 8, ground := Go.Ground.data }], guard := none }) (v := ?v78) rfl (by kernel_rfl) (by kernel_rfl) (by kernel_rfl) (fun _ _ _ h => h) (Or.inl ⟨by rfl, ?hy78⟩) hHeld ?rest78
            case hy78 => (intro w_ hSw; (try dsimp only at hSw); have f0_ := pw_cell_below hSw f0; have f1_ := pw_cell_below hSw f1; have f2_ := pw_cell_below hSw f2; have f3_ := pw_cell_below hSw f3; have f4_ := pw_cell_below hSw f4; have f5_ := pw_cell_below hSw f5; have g0_ := pw_cell_below hSw g0; have g1_ := pw_cell_below hSw g1; have g2_ := pw_cell_below hSw g2; have g3_ := pw_cell_below hSw g3; have g4_ := pw_cell_below hSw g4; have g5_ := pw_cell_below hSw g5; have p1_ := pw_cell_below hSw p1; have q1_ := pw_cell_below hSw q1; (try go_simp); (try with_reducible rfl))
            try simp only [Act.put, List.setIfInBounds_toArray, List.set_cons_zero, List.set_cons_succ]
            refine wpAnyH_ready (rs := [10]) (by kernel_rfl) (by simp) ?_
            refine AllReadyH.cons (o := { dst := some 38, op := Go.Op.call { callee := Go.Callee.value (Go.Operand.func 16), args := #[Go.Operand.tmp 32, Go.Operand.tmp 37], argTypes := #[64, 64] }, type := 4, pos := "crierref15.go:446", after := #[{ on := 4, ground := Go.Ground.data }, { on := 9, ground := Go.Ground.data }], guard := none }) rfl (fun K hK => ?_) AllReadyH.nil
            go_simp
            refine (SameSession_calls x y E1 e1 F1 u1 E3 e3 F3 u3 E4 e4 F4 u4 E5 e5 F5 u5 _ (Kd.C_below GE1.out (below_step HB.out HG.out)) LE1.out (Kd.C_below GF1.out (below_step HB.out HG.out)) LF1.out (Kd.C_below GE3.out (below_step HB.out HG.out)) LE3.out (Kd.C_below GF3.out (below_step HB.out HG.out)) LF3.out (Kd.C_below GE4.out (below_step HB.out HG.out)) LE4.out (Kd.C_below GF4.out (below_step HB.out HG.out)) LF4.out (Kd.C_below GE5.out (below_step HB.out HG.out)) LE5.out (Kd.C_below GF5.out (below_step HB.out HG.out)) LF5.out HWX.out HWY.out).mono ?_
            rintro e w3 ⟨rfl, hb⟩; rw [HQB.out]
            have n0_ := Aside0.mk (below_step HG.out hb); clear HG hb; have HG := n0_; clear n0_
            refine hK.out _ _ HG.out (fun hHeld2 => ?_)
            clear hK K hHeld; have hHeld := hHeld2; clear hHeld2
            try simp only [Act.put, List.setIfInBounds_toArray, List.set_cons_zero, List.set_cons_succ]
            refine wpAnyH_take (i := 11) (oi := { dst := some 39, op := Go.Op.unOp Go.UnOp.not 4 (Go.Operand.tmp 38), type := 4, pos := "crierref15.go:446", after := #[{ on := 10, ground := Go.Ground.data }], guard := none }) (v := ?v80) rfl (by kernel_rfl) (by kernel_rfl) (by kernel_rfl) (fun _ _ _ h => h) (Or.inl ⟨by rfl, ?hy80⟩) hHeld ?rest80
            case hy80 => (intro w_ hSw; (try dsimp only at hSw); (try go_simp); (try with_reducible rfl))
            try simp only [Act.put, List.setIfInBounds_toArray, List.set_cons_zero, List.set_cons_succ]
            refine wpAnyH_done (by kernel_rfl) ?_ _
            refine NoPanic.normal ?_
            have n0_ := Aside0.mk (below_step HB.out HG.out); have n1_ := Aside0.mk (blk_below BX0.out HG.out); have n2_ := Aside0.mk (blk_below BX1.out HG.out); clear HB HG BX0 BX1; have HB := n0_; have BX0 := n1_; have BX1 := n2_; clear n0_ n1_ n2_
            go_wp2
            go_roundw
            case rel => exact ⟨k + 1, by omega, by go_num, HE, HB, BX0, BX1⟩
            case measure => simp [intOf]; omega
        · obtain rfl : k = ls.length := by omega
          have HE : Aside0 (eqL eS ls ms = true) := ⟨by rw [← HQ.out]; exact eqL_end HLEN.out⟩
          clear HQ
          have HE1 := HE; clear HE HLEN
          by_cases hlen : lg.length = mg.length
          · have HLEN := Aside0.mk hlen
            have b0 : ((lg.length : Int) == (mg.length : Int)) = true := by simp [hlen]
            have b1 : ((lg.length : Int) != (mg.length : Int)) = false := by simp [hlen]
            have b2 : (lg.length == mg.length) = true := by simp [hlen]
            clear hlen
            go_wp2
            clear b0 b1 b2
            go_loopw [6] (fun i wr => ∃ k : Nat, k ≤ lg.length ∧ i = .int .i64 k ∧ Aside0 (eqL eG (lg.drop k) (mg.drop k) = eqL eG lg mg) ∧ Aside0 (Below w.heap.size w wr) ∧ Aside0 (wr.heap[ga]? = some (.cells #[.int .i64 au, .slice A1 ls.length c1, .slice A2 lr.length c2, .slice A3 lg.length c3] 26 (0, 0))) ∧ Aside0 (wr.heap[gb]? = some (.cells #[.int .i64 bu, .slice B1 ms.length d1, .slice B2 mr.length d2, .slice B3 mg.length d3] 26 (0, 0)))) (fun i _ => lg.length - (intOf i).toNat)
            case atStart => exact ⟨0, Nat.zero_le _, rfl, ⟨rfl⟩, HB, BX0, BX1⟩
            case round =>
              clear HB BX0 BX1 p0 q0 p1 q1 p2 q2 p3 q3
              obtain ⟨k, hk, rfl, HQ, HB, BX0, BX1⟩ := hrel
              obtain ⟨wo, hwo⟩ : ∃ x, x = wr := ⟨_, rfl⟩; subst hwo
              have p0 : wo.cell? ⟨ga, 0, none⟩ = _ := (blk_cell BX0.out 0).trans rfl; have q0 : wo.cell? ⟨gb, 0, none⟩ = _ := (blk_cell BX1.out 0).trans rfl; have p1 : wo.cell? ⟨ga, 1, none⟩ = _ := (blk_cell BX0.out 1).trans rfl; have q1 : wo.cell? ⟨gb, 1, none⟩ = _ := (blk_cell BX1.out 1).trans rfl; have p2 : wo.cell? ⟨ga, 2, none⟩ = _ := (blk_cell BX0.out 2).trans rfl; have q2 : wo.cell? ⟨gb, 2, none⟩ = _ := (blk_cell BX1.out 2).trans rfl; have p3 : wo.cell? ⟨ga, 3, none⟩ = _ := (blk_cell BX0.out 3).trans rfl; have q3 : wo.cell? ⟨gb, 3, none⟩ = _ := (blk_cell BX1.out 3).trans rfl
              by_cases hlt : k < lg.length
              · have hlt1 : k < mg.length := by have := HLEN.out; omega
                obtain ⟨ad0, e_, r0, r1⟩ := at_T66 HR3.out (k : Int) (by omega) (by omega)
                obtain ⟨x, hx⟩ : ∃ z, z = rd_T66 (lg) k := ⟨_, rfl⟩
                rw [← hx, Int.toNat_natCast] at r0 r1
                have f0 := pw_cell_below HB.out r0; clear r0
                have f1 := pw_cell_below HB.out r1; clear r1
                subst e_
                obtain ⟨ad1, e_, s0, s1⟩ := at_T66 HS3.out (k : Int) (by omega) (by omega)
                obtain ⟨y, hy⟩ : ∃ z, z = rd_T66 (mg) k := ⟨_, rfl⟩
                rw [← hy, Int.toNat_natCast] at s0 s1
                have g0 := pw_cell_below HB.out s0; clear s0
                have g1 := pw_cell_below HB.out s1; clear s1
                subst e_
                have hx' := at_k hlt hx; have hy' := at_k hlt1 hy; have HXM := Aside0.mk (List.mem_of_getElem? hx'); have HYM := Aside0.mk (List.mem_of_getElem? hy'); clear hx hy
                have HS := Aside0.mk (eqL_drop (e := eG) hx' hy'); clear hx' hy'
                cases hq : eG x y with
                | false =>
                  have HE : Aside0 (eqL eG lg mg = false) := ⟨by rw [← HQ.out, HS.out, hq]; rfl⟩
                  clear HQ HS
                  have h0_ : (!(x.f0.toList == y.f0.toList) || !(x.f1.toList == y.f1.toList)) = true := by unfold eG at hq; revert hq; cases x.f0.toList == y.f0.toList <;> cases x.f1.toList == y.f1.toList <;> simp
                  clear hq
                  go_wp2; repeat (go_quiet (fail); try go_wp2)
                  go_ret
                  exact ⟨by unfold eI; rw [HE.out]; simp, (by repeat (with_reducible first | exact HB.out | apply below_alloc | apply pw_below_drewN | (refine Below.setCell ?_ HB.out.size _)))⟩
                | true =>
                  have HE : Aside0 (eqL eG (lg.drop (k + 1)) (mg.drop (k + 1)) = eqL eG lg mg) := ⟨by rw [← HQ.out, HS.out, hq]; rfl⟩
                  clear HQ HS
                  obtain rfl : x = y := by
                    unfold eG at hq
                    simp only [Bool.and_eq_true, beq_iff_eq] at hq
                    cases x; cases y; simp only at hq; obtain ⟨h1, h2⟩ := hq; rw [bytes_ext h1, bytes_ext h2]
                  clear hq
                  go_wp2; repeat (go_quiet (fail); try go_wp2)
                  go_roundw
                  case rel => exact ⟨k + 1, by omega, by go_num, HE, ⟨(by repeat (with_reducible first | exact HB.out | apply below_alloc | apply pw_below_drewN | (refine Below.setCell ?_ HB.out.size _)))⟩, ⟨by first | exact BX0.out | exact blk_drewN BX0.out _⟩, ⟨by first | exact BX1.out | exact blk_drewN BX1.out _⟩⟩
                  case measure => simp [intOf]; omega
              · obtain rfl : k = lg.length := by omega
                have HE : Aside0 (eqL eG lg mg = true) := ⟨by rw [← HQ.out]; exact eqL_end HLEN.out⟩
                clear HQ
                have HE2 := HE
                go_wp2_with (go_at_call 17; (with_reducible refine (sameMessages_calls _ _ _ _ _ _ _ (Kd.C_below HR2.out HB.out) HC2.out (Kd.C_below HS2.out HB.out) HD2.out HW0.out.2 HW1.out.2).mono ?_); rintro e w5 ⟨rfl, hb⟩; have n0_ := Aside0.mk (below_step HB.out hb); clear HB hb; have HB := n0_; clear n0_)
                go_ret
                exact ⟨by unfold eI; rw [HT0.out, HE1.out, HE2.out]; simp, HB.out⟩
          · have HE : Aside0 (eqL eG lg mg = false) := ⟨eqL_ne hlen⟩
            have b0 : ((lg.length : Int) == (mg.length : Int)) = false := by simp; omega
            have b1 : ((lg.length : Int) != (mg.length : Int)) = true := by simp; omega
            have b2 : (lg.length == mg.length) = false := by simp; omega
            clear hlen
            go_wp2
            go_ret
            exact ⟨by unfold eI; rw [HE.out]; simp, HB.out⟩
end Go.Proofs.Ythlhlgomnjeenab.Rm
