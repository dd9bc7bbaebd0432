/- The chapter's examples come true: what crierlaw6's known tells, and that it answers true. -/
import Derived.Test.YtamelcgamlcliaaLea
import Derived.Test.YtamelcgamlcliaaMee
namespace Go.Proofs.Ytamelcgamlcliaa.Giv
open Go.RowKit Go.Proofs.YtamelcgamlcliaaW.PrintWords Go.Proofs.YtamelcgamlcliaaW.PrintLast Go.Proofs.YtamelcgamlcliaaW.PrintMore Go.Proofs.Ytamelcgamlcliaa.MCoverTopics
attribute [local go_sem] max2_int min2_int max_two min_two max_three min_three max_four min_four
set_option linter.unusedVariables false
set_option linter.unusedSimpArgs false
set_option maxRecDepth 100000

theorem Outside_f {a b : ByteArray} (ha : a.size ≤ big) (hb : b.size ≤ big) : cover_Outside.f a b = some (ans (Cr.outside (Cr.bl a) (Cr.bl b))) := by
  unfold cover_Outside.f; rw [if_pos ⟨ha, hb⟩]
theorem Within_f {a b : ByteArray} (ha : a.size ≤ big) (hb : b.size ≤ big) : cover_Within.f a b = some (Cr.within (Cr.bl a) (Cr.bl b)) := by
  unfold cover_Within.f; rw [if_pos ⟨ha, hb⟩]

theorem known_m1 : Cr.meet (Cr.bl ⟨#[97, 47, 43]⟩) (Cr.bl ⟨#[43, 47, 98]⟩) = some [97, 47, 98] := by decide +kernel
theorem known_m2 : Cr.meet (Cr.bl ⟨#[43]⟩) (Cr.bl ⟨#[36, 97]⟩) = none := by decide +kernel
theorem known_o1 : Cr.outside (Cr.bl ⟨#[35]⟩) (Cr.bl ⟨#[43, 47, 35]⟩) = none := by decide +kernel
theorem known_o2 : Cr.outside (Cr.bl ⟨#[97, 47, 35]⟩) (Cr.bl ⟨#[97, 47, 43]⟩) = some [97] := by decide +kernel
theorem known_t1 : Cr.mt (Cr.bl ⟨#[97, 47, 35]⟩) [97] = true := by decide +kernel
theorem known_t2 : Cr.mt (Cr.bl ⟨#[97, 47, 43]⟩) [97] = false := by decide +kernel
theorem known_w1 : Cr.within (Cr.bl ⟨#[97, 47, 98]⟩) (Cr.bl ⟨#[97, 47, 43]⟩) = true := by decide +kernel
theorem known_w2 : Cr.within (Cr.bl ⟨#[97, 47, 43]⟩) (Cr.bl ⟨#[97, 47, 98]⟩) = false := by decide +kernel
theorem known_l : leastGo 4 [(⟨#[97, 47, 98]⟩ : ByteArray), ⟨#[97, 47, 43]⟩, ⟨#[43, 47, 35]⟩, ⟨#[35]⟩] = [⟨#[43, 47, 35]⟩] := by decide +kernel
theorem known_Least : cover_Least.f [(⟨#[97, 47, 98]⟩ : ByteArray), ⟨#[97, 47, 43]⟩, ⟨#[43, 47, 35]⟩, ⟨#[35]⟩] = some [⟨#[43, 47, 35]⟩] := by
  unfold cover_Least.f
  rw [if_pos ⟨by decide, by
    intro x hx
    simp only [List.mem_cons, List.not_mem_nil, or_false] at hx
    rcases hx with rfl | rfl | rfl | rfl <;> decide⟩]
  exact congrArg some known_l
theorem same_one (x : ByteArray) (k : Nat) : crierlaw6_sameTexts.f (k + 2) [x] [x] = some true := by
  unfold crierlaw6_sameTexts.f
  rw [if_pos rfl, crierlaw6_sameTexts.l0, if_pos (by simp), if_pos (by omega), if_pos (by simp), rd0, if_pos rfl]
  rw [show wrap64 ((0 : Int) + 1) = 1 from by rw [wrap_in (by omega) (by omega)]; rfl, crierlaw6_sameTexts.l0, if_neg (by simp)]
theorem mt_len {f t : Cr.T} (h : Cr.mt f t = true) : t.length ≤ 65535 := by
  have := (Cr.mt_parts.1 h).2.1
  simp only [Cr.isTopic, Cr.isText, Bool.and_eq_true, decide_eq_true_eq] at this
  exact this.1.2.1
theorem Match_o (x : ByteArray) (s : Cr.T) (hx : x.size ≤ 140000) (hs : s.length ≤ 65535) (k : Nat) (hk : 500000 < k) : topic_Match.f k x (ofT s) = some (Cr.mt (Cr.bl x) s) := by
  rw [Match_f x (ofT s) (by unfold big; omega) (by rw [← Cr.bl_len, bl_ofT]; unfold big; omega) k (by omega), bl_ofT]

/-! The contract of known -/
def crierlaw6_known.f : Option Bool := some true
set_option maxHeartbeats 8000000 in
set_option maxRecDepth 100000 in
theorem crierlaw6_known.calls (r : Bool) (w : World) (h : crierlaw6_known.f = some r) :
    Calls Try.prog 13 #[] w fun e w' => e = .returned (.bool r) ∧ Below w.heap.size w w' := by
  have HB := Aside0.mk (Below.refl w.heap.size w)
  obtain rfl : r = true := (Option.some.inj h).symm
  clear h
  obtain ⟨k, hk0⟩ : ∃ k, k = 500001 := ⟨_, rfl⟩
  have hk : 500000 < k := by omega
  clear hk0
  obtain ⟨t101, A10, c7⟩ : ∃ t, cover_Meet.f k (⟨#[97, 47, 43]⟩ : ByteArray) (⟨#[43, 47, 98]⟩ : ByteArray) = some (t, true) ∧ t.toList = ([97, 47, 98] : List UInt8) := by
    have m1 := Meet_f ⟨#[97, 47, 43]⟩ ⟨#[43, 47, 98]⟩ (by decide) (by decide) k hk
    rw [known_m1] at m1
    exact ⟨ofT [97, 47, 98], m1, by rw [tl]; rfl⟩
  have A1 := Aside0.mk A10
  clear A10
  have c7b0 : (t101.toList == ([97, 47, 98] : List UInt8)) = true := beq_iff_eq.mpr c7
  have c7b1 : (t101.toList != ([97, 47, 98] : List UInt8)) = false := bne_eq_false_iff_eq.mpr c7
  clear c7
  obtain ⟨t103, A20⟩ : ∃ t, cover_Meet.f k (⟨#[43]⟩ : ByteArray) (⟨#[36, 97]⟩ : ByteArray) = some (t, false) := by
    have m2 := Meet_f ⟨#[43]⟩ ⟨#[36, 97]⟩ (by decide) (by decide) k hk
    rw [known_m2] at m2
    exact ⟨_, m2⟩
  have A2 := Aside0.mk A20
  clear A20
  obtain ⟨t105, A30⟩ : ∃ t, cover_Outside.f (⟨#[35]⟩ : ByteArray) (⟨#[43, 47, 35]⟩ : ByteArray) = some (t, false) := by
    have m2 := Outside_f (a := ⟨#[35]⟩) (b := ⟨#[43, 47, 35]⟩) (by decide) (by decide)
    rw [known_o1] at m2
    exact ⟨_, m2⟩
  have A3 := Aside0.mk A30
  clear A30
  obtain ⟨t107, A40, A270, A290⟩ : ∃ t, cover_Outside.f (⟨#[97, 47, 35]⟩ : ByteArray) (⟨#[97, 47, 43]⟩ : ByteArray) = some (t, true) ∧ topic_Match.f k (⟨#[97, 47, 35]⟩ : ByteArray) t = some true ∧ topic_Match.f k (⟨#[97, 47, 43]⟩ : ByteArray) t = some false := by
    have m2 := Outside_f (a := ⟨#[97, 47, 35]⟩) (b := ⟨#[97, 47, 43]⟩) (by decide) (by decide)
    rw [known_o2] at m2
    refine ⟨ofT [97], m2, ?_, ?_⟩
    · rw [Match_o ⟨#[97, 47, 35]⟩ [97] (by decide) (by decide) k hk, known_t1]
    · rw [Match_o ⟨#[97, 47, 43]⟩ [97] (by decide) (by decide) k hk, known_t2]
  have A4 := Aside0.mk A40
  have A27 := Aside0.mk A270
  have A29 := Aside0.mk A290
  clear A40 A270 A290
  obtain ⟨y109, hy109⟩ : ∃ y_ : List ByteArray, y_ = (([(⟨#[97, 47, 98]⟩ : ByteArray), (⟨#[97, 47, 43]⟩ : ByteArray), (⟨#[43, 47, 35]⟩ : ByteArray), (⟨#[35]⟩ : ByteArray)] : List ByteArray)) := ⟨_, rfl⟩
  obtain ⟨y117, hy117⟩ : ∃ y_ : List ByteArray, y_ = (([(⟨#[43, 47, 35]⟩ : ByteArray)] : List ByteArray)) := ⟨_, rfl⟩
  obtain ⟨t112, A50, A410⟩ : ∃ t, cover_Least.f y109 = some t ∧ crierlaw6_sameTexts.f k t y117 = some true := by
    refine ⟨[⟨#[43, 47, 35]⟩], by rw [hy109]; exact known_Least, ?_⟩
    rw [hy117]
    obtain ⟨k, rfl⟩ : ∃ j, k = j + 2 := ⟨k - 2, by omega⟩
    exact same_one _ k
  have A5 := Aside0.mk A50
  have A41 := Aside0.mk A410
  have Ny109 := Aside0.mk hy109
  have Ny117 := Aside0.mk hy117
  clear A50 A410 hy109 hy117
  have A43 := Aside0.mk (Within_f (a := ⟨#[97, 47, 98]⟩) (b := ⟨#[97, 47, 43]⟩) (by decide) (by decide))
  have A45 := Aside0.mk (Within_f (a := ⟨#[97, 47, 43]⟩) (b := ⟨#[97, 47, 98]⟩) (by decide) (by decide))
  rw [known_w1] at A43
  rw [known_w2] at A45
  clear hk
  go_enter Try.func13, Try.ntmps13
  go_wp2_with (first | ((with_reducible refine gate_callee (f := 7) rfl ?_); refine goesL_ (some 11) rfl rfl Try.func7 (by kernel_rfl) rfl #[.string (⟨#[97, 47, 43]⟩ : ByteArray), .string (⟨#[43, 47, 98]⟩ : ByteArray)] rfl (by (try simp only [List.map_toArray, List.map_cons, List.map_nil]); first | done | rfl | (simp only [List.length_drop, List.length_take]; rfl)) ?_; (with_reducible refine (cover_Meet.calls k (⟨#[97, 47, 43]⟩ : ByteArray) (⟨#[43, 47, 98]⟩ : ByteArray) t101 true _ A1.out).mono ?_); rintro e w46 ⟨rfl, hb⟩; refine ⟨_, rfl, ?_⟩; have n0_ := Aside0.mk (below_step (by repeat (first | (with_reducible first | exact HB.out | apply below_alloc | apply pw_below_drewN | apply below_drew1) | exact HB.out)) hb); clear HB; have HB := n0_; clear n0_; (try clear hb); (try clear hb2); (try clear hk); (try clear hi)) | ((with_reducible refine gate_callee (f := 7) rfl ?_); refine goesL_ (some 15) rfl rfl Try.func7 (by kernel_rfl) rfl #[.string (⟨#[43]⟩ : ByteArray), .string (⟨#[36, 97]⟩ : ByteArray)] rfl (by (try simp only [List.map_toArray, List.map_cons, List.map_nil]); first | done | rfl | (simp only [List.length_drop, List.length_take]; rfl)) ?_; (with_reducible refine (cover_Meet.calls k (⟨#[43]⟩ : ByteArray) (⟨#[36, 97]⟩ : ByteArray) t103 false _ A2.out).mono ?_); rintro e w47 ⟨rfl, hb⟩; refine ⟨_, rfl, ?_⟩; have n0_ := Aside0.mk (below_step (by repeat (first | (with_reducible first | exact HB.out | apply below_alloc | apply pw_below_drewN | apply below_drew1) | exact HB.out)) hb); clear HB; have HB := n0_; clear n0_; (try clear hb); (try clear hb2); (try clear hk); (try clear hi)) | ((with_reducible refine gate_callee (f := 10) rfl ?_); refine goesL_ (some 19) rfl rfl Try.func10 (by kernel_rfl) rfl #[.string (⟨#[35]⟩ : ByteArray), .string (⟨#[43, 47, 35]⟩ : ByteArray)] rfl (by (try simp only [List.map_toArray, List.map_cons, List.map_nil]); first | done | rfl | (simp only [List.length_drop, List.length_take]; rfl)) ?_; (with_reducible refine (cover_Outside.calls (⟨#[35]⟩ : ByteArray) (⟨#[43, 47, 35]⟩ : ByteArray) t105 false _ A3.out).mono ?_); rintro e w48 ⟨rfl, hb⟩; refine ⟨_, rfl, ?_⟩; have n0_ := Aside0.mk (below_step (by repeat (first | (with_reducible first | exact HB.out | apply below_alloc | apply pw_below_drewN | apply below_drew1) | exact HB.out)) hb); clear HB; have HB := n0_; clear n0_; (try clear hb); (try clear hb2); (try clear hk); (try clear hi)) | ((with_reducible refine gate_callee (f := 10) rfl ?_); refine goesL_ (some 23) rfl rfl Try.func10 (by kernel_rfl) rfl #[.string (⟨#[97, 47, 35]⟩ : ByteArray), .string (⟨#[97, 47, 43]⟩ : ByteArray)] rfl (by (try simp only [List.map_toArray, List.map_cons, List.map_nil]); first | done | rfl | (simp only [List.length_drop, List.length_take]; rfl)) ?_; (with_reducible refine (cover_Outside.calls (⟨#[97, 47, 35]⟩ : ByteArray) (⟨#[97, 47, 43]⟩ : ByteArray) t107 true _ A4.out).mono ?_); rintro e w49 ⟨rfl, hb⟩; refine ⟨_, rfl, ?_⟩; have n0_ := Aside0.mk (below_step (by repeat (first | (with_reducible first | exact HB.out | apply below_alloc | apply pw_below_drewN | apply below_drew1) | exact HB.out)) hb); clear HB; have HB := n0_; clear n0_; (try clear hb); (try clear hb2); (try clear hk); (try clear hi)) | ((with_reducible refine gate_dst (N := 26) rfl ?_); (try (refine gate_guard (by rfl) ?_; dsimp only)); refine Kd.R_lit Kd.string _ 9 ?hg (N := 26) ?hd (xs := ([(⟨#[97, 47, 98]⟩ : ByteArray), (⟨#[97, 47, 43]⟩ : ByteArray), (⟨#[43, 47, 35]⟩ : ByteArray), (⟨#[35]⟩ : ByteArray)] : List ByteArray)) (inner := [.string (⟨#[97, 47, 98]⟩ : ByteArray), .string (⟨#[97, 47, 43]⟩ : ByteArray), .string (⟨#[43, 47, 35]⟩ : ByteArray), .string (⟨#[35]⟩ : ByteArray)]) (ok := fun _ => True) (okp := fun _ => True) ?hr ?hp (fun _ hk => hk) trivial (Below.refl _ _) (Nat.le_refl _) (by simp) ?_; (case hd => rfl); (case hg => rfl); (case hr => first | (go_simp; done) | (go_simp; rfl)); (case hp => exact (Reps.one (show Kd.M Kd.string _ _ _ (⟨#[97, 47, 98]⟩ : ByteArray) [.string (⟨#[97, 47, 98]⟩ : ByteArray)] from rfl) (Reps.one (show Kd.M Kd.string _ _ _ (⟨#[97, 47, 43]⟩ : ByteArray) [.string (⟨#[97, 47, 43]⟩ : ByteArray)] from rfl) (Reps.one (show Kd.M Kd.string _ _ _ (⟨#[43, 47, 35]⟩ : ByteArray) [.string (⟨#[43, 47, 35]⟩ : ByteArray)] from rfl) (Reps.one (show Kd.M Kd.string _ _ _ (⟨#[35]⟩ : ByteArray) [.string (⟨#[35]⟩ : ByteArray)] from rfl) (Reps.none _ _)))))); intro v110 w50 ho51 hb hg_ hnew_; clear hg_ hnew_; (first | rw [← Ny109.out] at ho51 | (simp only [Int.reduceToNat] at ho51; rw [← Ny109.out] at ho51)); have n0_ := Aside0.mk (Kd.R_lower ho51 (below_size (by repeat (first | (with_reducible first | exact HB.out | apply below_alloc | apply pw_below_drewN | apply below_drew1) | exact HB.out)))); have n1_ := Aside0.mk (below_step (by repeat (first | (with_reducible first | exact HB.out | apply below_alloc | apply pw_below_drewN | apply below_drew1) | exact HB.out)) hb); clear HB; have HO111 := n0_; have HB := n1_; clear n0_ n1_; clear hb ho51; obtain ⟨Ao52, co52, eo52⟩ := Kd.R_slice HO111.out; subst eo52) | ((with_reducible refine gate_callee (f := 16) rfl ?_); refine goesL_ (some 27) rfl rfl Try.func16 (by kernel_rfl) rfl #[.slice Ao52 y109.length co52] rfl (by (try simp only [List.map_toArray, List.map_cons, List.map_nil]); first | done | rfl | (simp only [List.length_drop, List.length_take]; rfl)) ?_; (with_reducible refine (cover_Least.calls _ _ y109 t112 _ ?side1 ?side2 A5.out).mono ?_); (case side1 => repeat (first | exact (Kd.R_reads' HO111.out).2.2 | (with_reducible refine Kd.C_alloc ?_ _) | (with_reducible refine Kd.C_drewN ?_ _) | (with_reducible refine Kd.C_drew ?_))); (case side2 => exact (Kd.R_reads' HO111.out).2.1); rintro e w53 ⟨v113, rfl, ho0, hb⟩; refine ⟨_, rfl, ?_⟩; have n0_ := Aside0.mk (Kd.R_elder' (by (with_reducible repeat (first | apply Kd.R_alloc | apply Kd.R_drewN | apply Kd.R_drew)); exact HO111.out) (Kd.R_base ho0) hb); have n1_ := Aside0.mk (Kd.R_lower (Kd.R_new' ho0 (Kd.R_lt (by (with_reducible repeat (first | apply Kd.R_alloc | apply Kd.R_drewN | apply Kd.R_drew)); exact HO111.out))) (below_size (by repeat (first | (with_reducible first | exact HB.out | apply below_alloc | apply pw_below_drewN | apply below_drew1) | exact HB.out)))); have n2_ := Aside0.mk (below_step (by repeat (first | (with_reducible first | exact HB.out | apply below_alloc | apply pw_below_drewN | apply below_drew1) | exact HB.out)) hb); clear HO111; clear HB; have HO111 := n0_; have HO114 := n1_; have HB := n2_; clear n0_ n1_ n2_; (try clear hb); (try clear hb2); (try clear hk); (try clear hi); (try clear ho0)) | (go_at_call 14; (with_reducible refine (topic_Match.calls k (⟨#[97, 47, 35]⟩ : ByteArray) t107 true _ A27.out).mono ?_); rintro e w54 ⟨rfl, hb⟩; have n0_ := Aside0.mk (Kd.R_below (by (with_reducible repeat (first | apply Kd.R_alloc | apply Kd.R_drewN | apply Kd.R_drew)); exact HO111.out) hb); have n1_ := Aside0.mk (Kd.R_below (by (with_reducible repeat (first | apply Kd.R_alloc | apply Kd.R_drewN | apply Kd.R_drew)); exact HO114.out) hb); have n2_ := Aside0.mk (below_step (by repeat (first | (with_reducible first | exact HB.out | apply below_alloc | apply pw_below_drewN | apply below_drew1) | exact HB.out)) hb); clear HO111; clear HO114; clear HB; have HO111 := n0_; have HO114 := n1_; have HB := n2_; clear n0_ n1_ n2_; (try clear hb); (try clear hb2); (try clear hk); (try clear hi)) | (go_at_call 14; (with_reducible refine (topic_Match.calls k (⟨#[97, 47, 43]⟩ : ByteArray) t107 false _ A29.out).mono ?_); rintro e w55 ⟨rfl, hb⟩; have n0_ := Aside0.mk (Kd.R_below (by (with_reducible repeat (first | apply Kd.R_alloc | apply Kd.R_drewN | apply Kd.R_drew)); exact HO111.out) hb); have n1_ := Aside0.mk (Kd.R_below (by (with_reducible repeat (first | apply Kd.R_alloc | apply Kd.R_drewN | apply Kd.R_drew)); exact HO114.out) hb); have n2_ := Aside0.mk (below_step (by repeat (first | (with_reducible first | exact HB.out | apply below_alloc | apply pw_below_drewN | apply below_drew1) | exact HB.out)) hb); clear HO111; clear HO114; clear HB; have HO111 := n0_; have HO114 := n1_; have HB := n2_; clear n0_ n1_ n2_; (try clear hb); (try clear hb2); (try clear hk); (try clear hi)) | ((with_reducible refine gate_dst (N := 55) rfl ?_); (try (refine gate_guard (by rfl) ?_; dsimp only)); refine Kd.R_lit Kd.string _ 9 ?hg (N := 55) ?hd (xs := ([(⟨#[43, 47, 35]⟩ : ByteArray)] : List ByteArray)) (inner := [.string (⟨#[43, 47, 35]⟩ : ByteArray)]) (ok := fun _ => True) (okp := fun _ => True) ?hr ?hp (fun _ hk => hk) trivial (Below.refl _ _) (Nat.le_refl _) (by simp) ?_; (case hd => rfl); (case hg => rfl); (case hr => first | (go_simp; done) | (go_simp; rfl)); (case hp => exact (Reps.one (show Kd.M Kd.string _ _ _ (⟨#[43, 47, 35]⟩ : ByteArray) [.string (⟨#[43, 47, 35]⟩ : ByteArray)] from rfl) (Reps.none _ _))); intro v118 w56 ho57 hb hg_ hnew_; clear hg_ hnew_; (first | rw [← Ny117.out] at ho57 | (simp only [Int.reduceToNat] at ho57; rw [← Ny117.out] at ho57)); have n0_ := Aside0.mk (Kd.R_elder' (by (with_reducible repeat (first | apply Kd.R_alloc | apply Kd.R_drewN | apply Kd.R_drew)); exact HO111.out) (Kd.R_base ho57) hb); have n1_ := Aside0.mk (Kd.R_elder' (by (with_reducible repeat (first | apply Kd.R_alloc | apply Kd.R_drewN | apply Kd.R_drew)); exact HO114.out) (Kd.R_base ho57) hb); have n2_ := Aside0.mk (Kd.R_lower (Kd.R_new' (Kd.R_new' ho57 (Kd.R_lt (by (with_reducible repeat (first | apply Kd.R_alloc | apply Kd.R_drewN | apply Kd.R_drew)); exact HO111.out))) (Kd.R_lt (by (with_reducible repeat (first | apply Kd.R_alloc | apply Kd.R_drewN | apply Kd.R_drew)); exact HO114.out))) (below_size (by repeat (first | (with_reducible first | exact HB.out | apply below_alloc | apply pw_below_drewN | apply below_drew1) | exact HB.out)))); have n3_ := Aside0.mk (below_step (by repeat (first | (with_reducible first | exact HB.out | apply below_alloc | apply pw_below_drewN | apply below_drew1) | exact HB.out)) hb); clear HO111; clear HO114; clear HB; have HO111 := n0_; have HO114 := n1_; have HO119 := n2_; have HB := n3_; clear n0_ n1_ n2_ n3_; clear hb ho57; obtain ⟨Ao58, co58, eo58⟩ := Kd.R_slice HO114.out; subst eo58; obtain ⟨Ao59, co59, eo59⟩ := Kd.R_slice HO119.out; subst eo59) | (go_at_call 37; (with_reducible refine (crierlaw6_sameTexts.calls k _ _ t112 _ _ y117 true _ ?side1 ?side2 ?side3 ?side4 A41.out).mono ?_); (case side1 => repeat (first | exact (Kd.R_reads' HO114.out).2.2 | (with_reducible refine Kd.C_alloc ?_ _) | (with_reducible refine Kd.C_drewN ?_ _) | (with_reducible refine Kd.C_drew ?_))); (case side2 => exact (Kd.R_reads' HO114.out).2.1); (case side3 => repeat (first | exact (Kd.R_reads' HO119.out).2.2 | (with_reducible refine Kd.C_alloc ?_ _) | (with_reducible refine Kd.C_drewN ?_ _) | (with_reducible refine Kd.C_drew ?_))); (case side4 => exact (Kd.R_reads' HO119.out).2.1); rintro e w' ⟨rfl, ⟨nd, rfl⟩⟩) | (go_at_call 12; (with_reducible refine (cover_Within.calls (⟨#[97, 47, 98]⟩ : ByteArray) (⟨#[97, 47, 43]⟩ : ByteArray) true _ A43.out).mono ?_); rintro e w60 ⟨rfl, hb⟩; have n0_ := Aside0.mk (Kd.R_below (by (with_reducible repeat (first | apply Kd.R_alloc | apply Kd.R_drewN | apply Kd.R_drew)); exact HO111.out) hb); have n1_ := Aside0.mk (Kd.R_below (by (with_reducible repeat (first | apply Kd.R_alloc | apply Kd.R_drewN | apply Kd.R_drew)); exact HO114.out) hb); have n2_ := Aside0.mk (Kd.R_below (by (with_reducible repeat (first | apply Kd.R_alloc | apply Kd.R_drewN | apply Kd.R_drew)); exact HO119.out) hb); have n3_ := Aside0.mk (below_step (by repeat (first | (with_reducible first | exact HB.out | apply below_alloc | apply pw_below_drewN | apply below_drew1) | exact HB.out)) hb); clear HO111; clear HO114; clear HO119; clear HB; have HO111 := n0_; have HO114 := n1_; have HO119 := n2_; have HB := n3_; clear n0_ n1_ n2_ n3_; (try clear hb); (try clear hb2); (try clear hk); (try clear hi)) | (go_at_call 12; (with_reducible refine (cover_Within.calls (⟨#[97, 47, 43]⟩ : ByteArray) (⟨#[97, 47, 98]⟩ : ByteArray) false _ A45.out).mono ?_); rintro e w61 ⟨rfl, hb⟩; have n0_ := Aside0.mk (Kd.R_below (by (with_reducible repeat (first | apply Kd.R_alloc | apply Kd.R_drewN | apply Kd.R_drew)); exact HO111.out) hb); have n1_ := Aside0.mk (Kd.R_below (by (with_reducible repeat (first | apply Kd.R_alloc | apply Kd.R_drewN | apply Kd.R_drew)); exact HO114.out) hb); have n2_ := Aside0.mk (Kd.R_below (by (with_reducible repeat (first | apply Kd.R_alloc | apply Kd.R_drewN | apply Kd.R_drew)); exact HO119.out) hb); have n3_ := Aside0.mk (below_step (by repeat (first | (with_reducible first | exact HB.out | apply below_alloc | apply pw_below_drewN | apply below_drew1) | exact HB.out)) hb); clear HO111; clear HO114; clear HO119; clear HB; have HO111 := n0_; have HO114 := n1_; have HO119 := n2_; have HB := n3_; clear n0_ n1_ n2_ n3_; (try clear hb); (try clear hb2); (try clear hk); (try clear hi)))
  go_ret
  exact ⟨by first | rfl | (simp [errW_none, errW_some] <;> rfl) | (simp [*, errW_none, errW_some] <;> rfl), by repeat (first | (with_reducible first | exact HB.out | apply below_alloc | apply pw_below_drewN | apply below_drew1) | exact HB.out)⟩
end Go.Proofs.Ytamelcgamlcliaa.Giv
