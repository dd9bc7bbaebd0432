-- Printed by a program of this session's own (wip/mkprint.py): contracts of the functions that a law uses. Not trusted: Lean checks it.
import Derived.Test.YtamelcgamlcliaaLCoverTopicsx0
namespace Go.Proofs.Ytamelcgamlcliaa.LCoverTopics
open Go.RowKit Go.Proofs.Ytamelcgamlcliaa.Giv Go.Proofs.Ytamelcgamlcliaa.MCoverTopics Go.Proofs.YtamelcgamlcliaaW.PrintWords Go.Proofs.YtamelcgamlcliaaW.PrintLast Go.Proofs.YtamelcgamlcliaaW.PrintMore
attribute [local go_sem] max2_int min2_int max_two min_two max_three min_three max_four min_four   -- for this text's walks alone
set_option linter.unusedVariables false
set_option linter.unusedSimpArgs false

-- NOT PRINTED: function 75 (bytealg_IndexByteString)

-- NOT PRINTED: function 74 (stringslite_IndexByte)

-- NOT PRINTED: function 70 (strings_IndexByte)

-- NOT PRINTED: function 73 (bytealg_IndexString)

-- NOT PRINTED: function 64 (strings_IndexRune)

-- NOT PRINTED: function 66 (strings_makeASCIISet)

-- NOT PRINTED: function 67 (strings_asciiSet_contains)

-- NOT PRINTED: function 61 (strings_IndexAny)

-- NOT PRINTED: function 68 (abi_NoEscape)

-- NOT PRINTED: function 62 (strings_Builder_copyCheck)

-- NOT PRINTED: function 69 (bytealg_MakeNoZero)

-- NOT PRINTED: function 63 (strings_Builder_grow)

-- NOT PRINTED: function 55 (strings_Builder_Grow)

-- NOT PRINTED: function 56 (strings_Builder_WriteString)

-- NOT PRINTED: function 57 (strings_Builder_String)

-- NOT PRINTED: function 50 (cover_outside_rest)

-- NOT PRINTED: function 34 (cover_outside_leaves)

/-! ### crierlaw6_CoverTopics: function 4 -/
def crierlaw6_CoverTopics.j0 : Nat → ByteArray → ByteArray → ByteArray → Bool → ByteArray → Bool → Bool → Option (Bool)
  | 0, _, _, _, _, _, _, _ => none
  | k + 1, x0, x1, x7, x8, x9, x10, x67 => if x67 = true then (some false) else (if x8 = true then ((topic_Match.f k x0 x7).bind fun t111 => (if t111 = true then ((topic_Match.f k x1 x7).bind fun t112 => (if t112 = true then (if x10 = true then ((topic_Match.f k x0 x9).bind fun t113 => (if t113 = true then ((topic_Match.f k x1 x9).bind fun t114 => (some (!t114))) else (some false))) else (some true)) else (some false))) else (some false))) else (if x10 = true then ((topic_Match.f k x0 x9).bind fun t115 => (if t115 = true then ((topic_Match.f k x1 x9).bind fun t116 => (some (!t116))) else (some false))) else (some true)))
def crierlaw6_CoverTopics.f (k : Nat) (a0 : ByteArray) (a1 : ByteArray) (a2 : ByteArray) : Option (Bool) := if (wrap64 ((wrap64 ((a0.size : Int) + (a1.size : Int))) + (a2.size : Int))) > 140000 then (some true) else ((crierlaw6_known.f).bind fun t101 => (if t101 = true then ((cover_Meet.f k a0 a1).bind fun bt102 => ((cover_Outside.f a0 a1).bind fun bt104 => ((topic_Match.f k a0 a2).bind fun t106 => ((topic_Match.f k a1 a2).bind fun t107 => (if t106 = true then (if t107 = true then (if bt102.2 = true then ((cover_Within.f a0 a1).bind fun t108 => (crierlaw6_CoverTopics.j0 k a0 a1 bt102.1 bt102.2 bt104.1 bt104.2 (t108 == bt104.2))) else (crierlaw6_CoverTopics.j0 k a0 a1 bt102.1 bt102.2 bt104.1 bt104.2 true)) else (if bt104.2 = true then ((cover_Within.f a0 a1).bind fun t109 => (crierlaw6_CoverTopics.j0 k a0 a1 bt102.1 bt102.2 bt104.1 bt104.2 (t109 == bt104.2))) else (crierlaw6_CoverTopics.j0 k a0 a1 bt102.1 bt102.2 bt104.1 bt104.2 true))) else ((cover_Within.f a0 a1).bind fun t110 => (crierlaw6_CoverTopics.j0 k a0 a1 bt102.1 bt102.2 bt104.1 bt104.2 (t110 == bt104.2)))))))) else (some false)))
set_option maxHeartbeats 8000000 in
set_option maxRecDepth 100000 in
theorem crierlaw6_CoverTopics.calls (k : Nat) (a0 : ByteArray) (a1 : ByteArray) (a2 : ByteArray) (r : Bool) (w : World) (h : crierlaw6_CoverTopics.f k a0 a1 a2 = some r) :
    Calls Try.prog 4 #[.string a0, .string a1, .string a2] w fun e w' => e = .returned (.bool r) ∧ Below w.heap.size w w' := by
  have HB := Aside0.mk (Below.refl w.heap.size w)
  have H : (if (wrap64 ((wrap64 ((a0.size : Int) + (a1.size : Int))) + (a2.size : Int))) > 140000 then (some true) else ((crierlaw6_known.f).bind fun t101 => (if t101 = true then ((cover_Meet.f k a0 a1).bind fun bt102 => ((cover_Outside.f a0 a1).bind fun bt104 => ((topic_Match.f k a0 a2).bind fun t106 => ((topic_Match.f k a1 a2).bind fun t107 => (if t106 = true then (if t107 = true then (if bt102.2 = true then ((cover_Within.f a0 a1).bind fun t108 => (crierlaw6_CoverTopics.j0 k a0 a1 bt102.1 bt102.2 bt104.1 bt104.2 (t108 == bt104.2))) else (crierlaw6_CoverTopics.j0 k a0 a1 bt102.1 bt102.2 bt104.1 bt104.2 true)) else (if bt104.2 = true then ((cover_Within.f a0 a1).bind fun t109 => (crierlaw6_CoverTopics.j0 k a0 a1 bt102.1 bt102.2 bt104.1 bt104.2 (t109 == bt104.2))) else (crierlaw6_CoverTopics.j0 k a0 a1 bt102.1 bt102.2 bt104.1 bt104.2 true))) else ((cover_Within.f a0 a1).bind fun t110 => (crierlaw6_CoverTopics.j0 k a0 a1 bt102.1 bt102.2 bt104.1 bt104.2 (t110 == bt104.2)))))))) else (some false)))) = some r := h
  clear h
  by_cases c4 : (wrap64 ((wrap64 ((a0.size : Int) + (a1.size : Int))) + (a2.size : Int))) > 140000
  · rw [if_pos c4] at H
    have c4b0 : decide (140000 < (wrap64 ((wrap64 ((a0.size : Int) + (a1.size : Int))) + (a2.size : Int)))) = true := decide_eq_true c4
    clear c4
    obtain rfl := Option.some.inj H
    go_enter Try.func4, Try.ntmps4
    go_wp2
    go_ret
    exact ⟨by first | rfl | (simp [errW_none, errW_some] <;> rfl) | (simp [*, errW_none, errW_some] <;> rfl), by repeat (first | (with_reducible first | exact HB.out | apply below_alloc | apply pw_below_drewN | apply below_drew1) | exact HB.out)⟩
  · rw [if_neg c4] at H
    have c4b0 : decide (140000 < (wrap64 ((wrap64 ((a0.size : Int) + (a1.size : Int))) + (a2.size : Int)))) = false := decide_eq_false c4
    clear c4
    replace H := Option.bind_eq_some_iff.mp H
    obtain ⟨t101, A50, H⟩ := H
    replace H : (if t101 = true then ((cover_Meet.f k a0 a1).bind fun bt102 => ((cover_Outside.f a0 a1).bind fun bt104 => ((topic_Match.f k a0 a2).bind fun t106 => ((topic_Match.f k a1 a2).bind fun t107 => (if t106 = true then (if t107 = true then (if bt102.2 = true then ((cover_Within.f a0 a1).bind fun t108 => (crierlaw6_CoverTopics.j0 k a0 a1 bt102.1 bt102.2 bt104.1 bt104.2 (t108 == bt104.2))) else (crierlaw6_CoverTopics.j0 k a0 a1 bt102.1 bt102.2 bt104.1 bt104.2 true)) else (if bt104.2 = true then ((cover_Within.f a0 a1).bind fun t109 => (crierlaw6_CoverTopics.j0 k a0 a1 bt102.1 bt102.2 bt104.1 bt104.2 (t109 == bt104.2))) else (crierlaw6_CoverTopics.j0 k a0 a1 bt102.1 bt102.2 bt104.1 bt104.2 true))) else ((cover_Within.f a0 a1).bind fun t110 => (crierlaw6_CoverTopics.j0 k a0 a1 bt102.1 bt102.2 bt104.1 bt104.2 (t110 == bt104.2)))))))) else (some false)) = some r := H
    have A5 := Aside0.mk A50
    clear A50
    by_cases c6 : t101 = true
    · subst c6
      have H1 : ((cover_Meet.f k a0 a1).bind fun bt102 => ((cover_Outside.f a0 a1).bind fun bt104 => ((topic_Match.f k a0 a2).bind fun t106 => ((topic_Match.f k a1 a2).bind fun t107 => (if t106 = true then (if t107 = true then (if bt102.2 = true then ((cover_Within.f a0 a1).bind fun t108 => (crierlaw6_CoverTopics.j0 k a0 a1 bt102.1 bt102.2 bt104.1 bt104.2 (t108 == bt104.2))) else (crierlaw6_CoverTopics.j0 k a0 a1 bt102.1 bt102.2 bt104.1 bt104.2 true)) else (if bt104.2 = true then ((cover_Within.f a0 a1).bind fun t109 => (crierlaw6_CoverTopics.j0 k a0 a1 bt102.1 bt102.2 bt104.1 bt104.2 (t109 == bt104.2))) else (crierlaw6_CoverTopics.j0 k a0 a1 bt102.1 bt102.2 bt104.1 bt104.2 true))) else ((cover_Within.f a0 a1).bind fun t110 => (crierlaw6_CoverTopics.j0 k a0 a1 bt102.1 bt102.2 bt104.1 bt104.2 (t110 == bt104.2)))))))) = some r := by rw [if_pos rfl] at H; exact H
      clear H
      have H := H1
      clear H1
      replace H := Option.bind_eq_some_iff.mp H
      obtain ⟨⟨t102, t103⟩, A70, H⟩ := H
      replace H : ((cover_Outside.f a0 a1).bind fun bt104 => ((topic_Match.f k a0 a2).bind fun t106 => ((topic_Match.f k a1 a2).bind fun t107 => (if t106 = true then (if t107 = true then (if t103 = true then ((cover_Within.f a0 a1).bind fun t108 => (crierlaw6_CoverTopics.j0 k a0 a1 t102 t103 bt104.1 bt104.2 (t108 == bt104.2))) else (crierlaw6_CoverTopics.j0 k a0 a1 t102 t103 bt104.1 bt104.2 true)) else (if bt104.2 = true then ((cover_Within.f a0 a1).bind fun t109 => (crierlaw6_CoverTopics.j0 k a0 a1 t102 t103 bt104.1 bt104.2 (t109 == bt104.2))) else (crierlaw6_CoverTopics.j0 k a0 a1 t102 t103 bt104.1 bt104.2 true))) else ((cover_Within.f a0 a1).bind fun t110 => (crierlaw6_CoverTopics.j0 k a0 a1 t102 t103 bt104.1 bt104.2 (t110 == bt104.2))))))) = some r := H
      have A7 := Aside0.mk A70
      clear A70
      replace H := Option.bind_eq_some_iff.mp H
      obtain ⟨⟨t104, t105⟩, A80, H⟩ := H
      replace H : ((topic_Match.f k a0 a2).bind fun t106 => ((topic_Match.f k a1 a2).bind fun t107 => (if t106 = true then (if t107 = true then (if t103 = true then ((cover_Within.f a0 a1).bind fun t108 => (crierlaw6_CoverTopics.j0 k a0 a1 t102 t103 t104 t105 (t108 == t105))) else (crierlaw6_CoverTopics.j0 k a0 a1 t102 t103 t104 t105 true)) else (if t105 = true then ((cover_Within.f a0 a1).bind fun t109 => (crierlaw6_CoverTopics.j0 k a0 a1 t102 t103 t104 t105 (t109 == t105))) else (crierlaw6_CoverTopics.j0 k a0 a1 t102 t103 t104 t105 true))) else ((cover_Within.f a0 a1).bind fun t110 => (crierlaw6_CoverTopics.j0 k a0 a1 t102 t103 t104 t105 (t110 == t105)))))) = some r := H
      have A8 := Aside0.mk A80
      clear A80
      replace H := Option.bind_eq_some_iff.mp H
      obtain ⟨t106, A90, H⟩ := H
      replace H : ((topic_Match.f k a1 a2).bind fun t107 => (if t106 = true then (if t107 = true then (if t103 = true then ((cover_Within.f a0 a1).bind fun t108 => (crierlaw6_CoverTopics.j0 k a0 a1 t102 t103 t104 t105 (t108 == t105))) else (crierlaw6_CoverTopics.j0 k a0 a1 t102 t103 t104 t105 true)) else (if t105 = true then ((cover_Within.f a0 a1).bind fun t109 => (crierlaw6_CoverTopics.j0 k a0 a1 t102 t103 t104 t105 (t109 == t105))) else (crierlaw6_CoverTopics.j0 k a0 a1 t102 t103 t104 t105 true))) else ((cover_Within.f a0 a1).bind fun t110 => (crierlaw6_CoverTopics.j0 k a0 a1 t102 t103 t104 t105 (t110 == t105))))) = some r := H
      have A9 := Aside0.mk A90
      clear A90
      replace H := Option.bind_eq_some_iff.mp H
      obtain ⟨t107, A100, H⟩ := H
      replace H : (if t106 = true then (if t107 = true then (if t103 = true then ((cover_Within.f a0 a1).bind fun t108 => (crierlaw6_CoverTopics.j0 k a0 a1 t102 t103 t104 t105 (t108 == t105))) else (crierlaw6_CoverTopics.j0 k a0 a1 t102 t103 t104 t105 true)) else (if t105 = true then ((cover_Within.f a0 a1).bind fun t109 => (crierlaw6_CoverTopics.j0 k a0 a1 t102 t103 t104 t105 (t109 == t105))) else (crierlaw6_CoverTopics.j0 k a0 a1 t102 t103 t104 t105 true))) else ((cover_Within.f a0 a1).bind fun t110 => (crierlaw6_CoverTopics.j0 k a0 a1 t102 t103 t104 t105 (t110 == t105)))) = some r := H
      have A10 := Aside0.mk A100
      clear A100
      have HC11 := Aside0.mk H
      clear H
      go_enter Try.func4, Try.ntmps4
      go_upto_region 8 with (first | ((with_reducible refine gate_callee (f := 13) rfl ?_); refine goesL_ (some 22) rfl rfl Try.func13 (by kernel_rfl) rfl #[] rfl (by (try simp only [List.map_toArray, List.map_cons, List.map_nil]); first | done | rfl | (simp only [List.length_drop, List.length_take]; rfl)) ?_; (with_reducible refine (crierlaw6_known.calls  true _ A5.out).mono ?_); rintro e w12 ⟨rfl, hb⟩; refine ⟨_, rfl, ?_⟩; have n0_ := Aside0.mk (below_step (by repeat (first | (with_reducible first | exact HB.out | apply below_alloc | apply pw_below_drewN | apply below_drew1) | exact HB.out)) hb); clear HB; have HB := n0_; clear n0_; (try clear hb); (try clear hb2); (try clear hk); (try clear hi)) | ((with_reducible refine gate_callee (f := 7) rfl ?_); refine goesL_ (some 27) rfl rfl Try.func7 (by kernel_rfl) rfl #[.string a0, .string a1] rfl (by (try simp only [List.map_toArray, List.map_cons, List.map_nil]); first | done | rfl | (simp only [List.length_drop, List.length_take]; rfl)) ?_; (with_reducible refine (cover_Meet.calls k a0 a1 t102 t103 _ A7.out).mono ?_); rintro e w13 ⟨rfl, hb⟩; refine ⟨_, rfl, ?_⟩; have n0_ := Aside0.mk (below_step (by repeat (first | (with_reducible first | exact HB.out | apply below_alloc | apply pw_below_drewN | apply below_drew1) | exact HB.out)) hb); clear HB; have HB := n0_; clear n0_; (try clear hb); (try clear hb2); (try clear hk); (try clear hi)) | ((with_reducible refine gate_callee (f := 10) rfl ?_); refine goesL_ (some 33) rfl rfl Try.func10 (by kernel_rfl) rfl #[.string a0, .string a1] rfl (by (try simp only [List.map_toArray, List.map_cons, List.map_nil]); first | done | rfl | (simp only [List.length_drop, List.length_take]; rfl)) ?_; (with_reducible refine (cover_Outside.calls a0 a1 t104 t105 _ A8.out).mono ?_); rintro e w14 ⟨rfl, hb⟩; refine ⟨_, rfl, ?_⟩; have n0_ := Aside0.mk (below_step (by repeat (first | (with_reducible first | exact HB.out | apply below_alloc | apply pw_below_drewN | apply below_drew1) | exact HB.out)) hb); clear HB; have HB := n0_; clear n0_; (try clear hb); (try clear hb2); (try clear hk); (try clear hi)) | ((with_reducible refine gate_callee (f := 14) rfl ?_); refine goesL_ (some 38) rfl rfl Try.func14 (by kernel_rfl) rfl #[.string a0, .string a2] rfl (by (try simp only [List.map_toArray, List.map_cons, List.map_nil]); first | done | rfl | (simp only [List.length_drop, List.length_take]; rfl)) ?_; (with_reducible refine (topic_Match.calls k a0 a2 t106 _ A9.out).mono ?_); rintro e w15 ⟨rfl, hb⟩; refine ⟨_, rfl, ?_⟩; have n0_ := Aside0.mk (below_step (by repeat (first | (with_reducible first | exact HB.out | apply below_alloc | apply pw_below_drewN | apply below_drew1) | exact HB.out)) hb); clear HB; have HB := n0_; clear n0_; (try clear hb); (try clear hb2); (try clear hk); (try clear hi)) | ((with_reducible refine gate_callee (f := 14) rfl ?_); refine goesL_ (some 41) rfl rfl Try.func14 (by kernel_rfl) rfl #[.string a1, .string a2] rfl (by (try simp only [List.map_toArray, List.map_cons, List.map_nil]); first | done | rfl | (simp only [List.length_drop, List.length_take]; rfl)) ?_; (with_reducible refine (topic_Match.calls k a1 a2 t107 _ A10.out).mono ?_); rintro e w16 ⟨rfl, hb⟩; refine ⟨_, rfl, ?_⟩; have n0_ := Aside0.mk (below_step (by repeat (first | (with_reducible first | exact HB.out | apply below_alloc | apply pw_below_drewN | apply below_drew1) | exact HB.out)) hb); clear HB; have HB := n0_; clear n0_; (try clear hb); (try clear hb2); (try clear hk); (try clear hi)))
      (try simp only [Act.put, List.setIfInBounds_toArray, List.set_cons_zero, List.set_cons_succ])
      go_cut [67] (fun v67 wc => ∃ (kq : Nat) (x67_10 : Bool), v67 = .bool x67_10 ∧ Aside0 (crierlaw6_CoverTopics.j0 kq a0 a1 t102 t103 t104 t105 x67_10 = some r) ∧ Aside0 (kq ≤ k) ∧ Aside0 (Below w.heap.size w wc))
      case first =>
        have H := HC11.out
        clear HC11
        by_cases c17 : t106 = true
        · subst c17
          have H1 : (if t107 = true then (if t103 = true then ((cover_Within.f a0 a1).bind fun t108 => (crierlaw6_CoverTopics.j0 k a0 a1 t102 t103 t104 t105 (t108 == t105))) else (crierlaw6_CoverTopics.j0 k a0 a1 t102 t103 t104 t105 true)) else (if t105 = true then ((cover_Within.f a0 a1).bind fun t109 => (crierlaw6_CoverTopics.j0 k a0 a1 t102 t103 t104 t105 (t109 == t105))) else (crierlaw6_CoverTopics.j0 k a0 a1 t102 t103 t104 t105 true))) = some r := by rw [if_pos rfl] at H; exact H
          clear H
          have H := H1
          clear H1
          by_cases c18 : t107 = true
          · subst c18
            have H1 : (if t103 = true then ((cover_Within.f a0 a1).bind fun t108 => (crierlaw6_CoverTopics.j0 k a0 a1 t102 t103 t104 t105 (t108 == t105))) else (crierlaw6_CoverTopics.j0 k a0 a1 t102 t103 t104 t105 true)) = some r := by rw [if_pos rfl] at H; exact H
            clear H
            have H := H1
            clear H1
            by_cases c19 : t103 = true
            · subst c19
              have H1 : ((cover_Within.f a0 a1).bind fun t108 => (crierlaw6_CoverTopics.j0 k a0 a1 t102 true t104 t105 (t108 == t105))) = some r := by rw [if_pos rfl] at H; exact H
              clear H
              have H := H1
              clear H1
              replace H := Option.bind_eq_some_iff.mp H
              obtain ⟨t108, A200, H⟩ := H
              replace H : (crierlaw6_CoverTopics.j0 k a0 a1 t102 true t104 t105 (t108 == t105)) = some r := H
              have A20 := Aside0.mk A200
              clear A200
              have H' := Aside0.mk H
              clear H
              go_wp2_with (first | (go_at_call 12; (with_reducible refine (cover_Within.calls a0 a1 t108 _ A20.out).mono ?_); rintro e w21 ⟨rfl, hb⟩; have n0_ := Aside0.mk (below_step (by repeat (first | (with_reducible first | exact HB.out | apply below_alloc | apply pw_below_drewN | apply below_drew1) | exact HB.out)) hb); clear HB; have HB := n0_; clear n0_; (try clear hb); (try clear hb2); (try clear hk); (try clear hi)))
              go_meet
              case rel => exact ⟨_, ((t108 == t105)), (by first | rfl | (simp; done) | (simp [*]; done)), H', ⟨by first | omega | exact Nat.le_refl _⟩, ⟨by repeat (first | (with_reducible first | exact HB.out | apply below_alloc | apply pw_below_drewN | apply below_drew1) | exact HB.out)⟩⟩
            · replace c19 := Bool.eq_false_iff.mpr c19
              subst c19
              have H1 : (crierlaw6_CoverTopics.j0 k a0 a1 t102 false t104 t105 true) = some r := by rw [if_neg (show ¬ (false = true) by decide)] at H; exact H
              clear H
              have H := H1
              clear H1
              have H' := Aside0.mk H
              clear H
              go_wp2
              go_meet
              case rel => exact ⟨_, (true), (by first | rfl | (simp; done) | (simp [*]; done)), H', ⟨by first | omega | exact Nat.le_refl _⟩, ⟨by repeat (first | (with_reducible first | exact HB.out | apply below_alloc | apply pw_below_drewN | apply below_drew1) | exact HB.out)⟩⟩
          · replace c18 := Bool.eq_false_iff.mpr c18
            subst c18
            have H1 : (if t105 = true then ((cover_Within.f a0 a1).bind fun t109 => (crierlaw6_CoverTopics.j0 k a0 a1 t102 t103 t104 t105 (t109 == t105))) else (crierlaw6_CoverTopics.j0 k a0 a1 t102 t103 t104 t105 true)) = some r := by rw [if_neg (show ¬ (false = true) by decide)] at H; exact H
            clear H
            have H := H1
            clear H1
            by_cases c22 : t105 = true
            · subst c22
              have H1 : ((cover_Within.f a0 a1).bind fun t109 => (crierlaw6_CoverTopics.j0 k a0 a1 t102 t103 t104 true (t109 == true))) = some r := by rw [if_pos rfl] at H; exact H
              clear H
              have H := H1
              clear H1
              replace H := Option.bind_eq_some_iff.mp H
              obtain ⟨t109, A230, H⟩ := H
              replace H : (crierlaw6_CoverTopics.j0 k a0 a1 t102 t103 t104 true (t109 == true)) = some r := H
              have A23 := Aside0.mk A230
              clear A230
              have H' := Aside0.mk H
              clear H
              go_wp2_with (first | (go_at_call 12; (with_reducible refine (cover_Within.calls a0 a1 t109 _ A23.out).mono ?_); rintro e w24 ⟨rfl, hb⟩; have n0_ := Aside0.mk (below_step (by repeat (first | (with_reducible first | exact HB.out | apply below_alloc | apply pw_below_drewN | apply below_drew1) | exact HB.out)) hb); clear HB; have HB := n0_; clear n0_; (try clear hb); (try clear hb2); (try clear hk); (try clear hi)))
              go_meet
              case rel => exact ⟨_, ((t109 == true)), (by first | rfl | (simp; done) | (simp [*]; done)), H', ⟨by first | omega | exact Nat.le_refl _⟩, ⟨by repeat (first | (with_reducible first | exact HB.out | apply below_alloc | apply pw_below_drewN | apply below_drew1) | exact HB.out)⟩⟩
            · replace c22 := Bool.eq_false_iff.mpr c22
              subst c22
              have H1 : (crierlaw6_CoverTopics.j0 k a0 a1 t102 t103 t104 false true) = some r := by rw [if_neg (show ¬ (false = true) by decide)] at H; exact H
              clear H
              have H := H1
              clear H1
              have H' := Aside0.mk H
              clear H
              go_wp2
              go_meet
              case rel => exact ⟨_, (true), (by first | rfl | (simp; done) | (simp [*]; done)), H', ⟨by first | omega | exact Nat.le_refl _⟩, ⟨by repeat (first | (with_reducible first | exact HB.out | apply below_alloc | apply pw_below_drewN | apply below_drew1) | exact HB.out)⟩⟩
        · replace c17 := Bool.eq_false_iff.mpr c17
          subst c17
          have H1 : ((cover_Within.f a0 a1).bind fun t110 => (crierlaw6_CoverTopics.j0 k a0 a1 t102 t103 t104 t105 (t110 == t105))) = some r := by rw [if_neg (show ¬ (false = true) by decide)] at H; exact H
          clear H
          have H := H1
          clear H1
          replace H := Option.bind_eq_some_iff.mp H
          obtain ⟨t110, A250, H⟩ := H
          replace H : (crierlaw6_CoverTopics.j0 k a0 a1 t102 t103 t104 t105 (t110 == t105)) = some r := H
          have A25 := Aside0.mk A250
          clear A250
          have H' := Aside0.mk H
          clear H
          go_wp2_with (first | (go_at_call 12; (with_reducible refine (cover_Within.calls a0 a1 t110 _ A25.out).mono ?_); rintro e w26 ⟨rfl, hb⟩; have n0_ := Aside0.mk (below_step (by repeat (first | (with_reducible first | exact HB.out | apply below_alloc | apply pw_below_drewN | apply below_drew1) | exact HB.out)) hb); clear HB; have HB := n0_; clear n0_; (try clear hb); (try clear hb2); (try clear hk); (try clear hi)))
          go_meet
          case rel => exact ⟨_, ((t110 == t105)), (by first | rfl | (simp; done) | (simp [*]; done)), H', ⟨by first | omega | exact Nat.le_refl _⟩, ⟨by repeat (first | (with_reducible first | exact HB.out | apply below_alloc | apply pw_below_drewN | apply below_drew1) | exact HB.out)⟩⟩
      case rest =>
        clear HC11
        try clear c1
        try clear c2
        try clear p2
        try clear c4
        try clear c4b0
        try clear c6
        try clear p6
        try clear c7
        try clear c10
        try clear c13
        try clear c14
        try clear c17
        try clear c18
        try clear c19
        try clear c22
        obtain ⟨kq, x67_10, rfl, HA, HJ10, HB⟩ := hcut
        cases kq with
        | zero => exact absurd HA.out (by simp [crierlaw6_CoverTopics.j0])
        | succ kj10 =>
          have H := HA.out
          clear HA
          simp only [crierlaw6_CoverTopics.j0] at H
          by_cases c27 : x67_10 = true
          · subst c27
            have H1 : (some false) = some r := by rw [if_pos rfl] at H; exact H
            clear H
            have H := H1
            clear H1
            obtain rfl := Option.some.inj H
            go_wp2
            go_ret
            exact ⟨by first | rfl | (simp [errW_none, errW_some] <;> rfl) | (simp [*, errW_none, errW_some] <;> rfl), by repeat (first | (with_reducible first | exact HB.out | apply below_alloc | apply pw_below_drewN | apply below_drew1) | exact HB.out)⟩
          · replace c27 := Bool.eq_false_iff.mpr c27
            subst c27
            have H1 : (if t103 = true then ((topic_Match.f kj10 a0 t102).bind fun t111 => (if t111 = true then ((topic_Match.f kj10 a1 t102).bind fun t112 => (if t112 = true then (if t105 = true then ((topic_Match.f kj10 a0 t104).bind fun t113 => (if t113 = true then ((topic_Match.f kj10 a1 t104).bind fun t114 => (some (!t114))) else (some false))) else (some true)) else (some false))) else (some false))) else (if t105 = true then ((topic_Match.f kj10 a0 t104).bind fun t115 => (if t115 = true then ((topic_Match.f kj10 a1 t104).bind fun t116 => (some (!t116))) else (some false))) else (some true))) = some r := by rw [if_neg (show ¬ (false = true) by decide)] at H; exact H
            clear H
            have H := H1
            clear H1
            by_cases c28 : t103 = true
            · subst c28
              have H1 : ((topic_Match.f kj10 a0 t102).bind fun t111 => (if t111 = true then ((topic_Match.f kj10 a1 t102).bind fun t112 => (if t112 = true then (if t105 = true then ((topic_Match.f kj10 a0 t104).bind fun t113 => (if t113 = true then ((topic_Match.f kj10 a1 t104).bind fun t114 => (some (!t114))) else (some false))) else (some true)) else (some false))) else (some false))) = some r := by rw [if_pos rfl] at H; exact H
              clear H
              have H := H1
              clear H1
              replace H := Option.bind_eq_some_iff.mp H
              obtain ⟨t111, A290, H⟩ := H
              replace H : (if t111 = true then ((topic_Match.f kj10 a1 t102).bind fun t112 => (if t112 = true then (if t105 = true then ((topic_Match.f kj10 a0 t104).bind fun t113 => (if t113 = true then ((topic_Match.f kj10 a1 t104).bind fun t114 => (some (!t114))) else (some false))) else (some true)) else (some false))) else (some false)) = some r := H
              have A29 := Aside0.mk A290
              clear A290
              by_cases c30 : t111 = true
              · subst c30
                have H1 : ((topic_Match.f kj10 a1 t102).bind fun t112 => (if t112 = true then (if t105 = true then ((topic_Match.f kj10 a0 t104).bind fun t113 => (if t113 = true then ((topic_Match.f kj10 a1 t104).bind fun t114 => (some (!t114))) else (some false))) else (some true)) else (some false))) = some r := by rw [if_pos rfl] at H; exact H
                clear H
                have H := H1
                clear H1
                replace H := Option.bind_eq_some_iff.mp H
                obtain ⟨t112, A310, H⟩ := H
                replace H : (if t112 = true then (if t105 = true then ((topic_Match.f kj10 a0 t104).bind fun t113 => (if t113 = true then ((topic_Match.f kj10 a1 t104).bind fun t114 => (some (!t114))) else (some false))) else (some true)) else (some false)) = some r := H
                have A31 := Aside0.mk A310
                clear A310
                by_cases c32 : t112 = true
                · subst c32
                  have H1 : (if t105 = true then ((topic_Match.f kj10 a0 t104).bind fun t113 => (if t113 = true then ((topic_Match.f kj10 a1 t104).bind fun t114 => (some (!t114))) else (some false))) else (some true)) = some r := by rw [if_pos rfl] at H; exact H
                  clear H
                  have H := H1
                  clear H1
                  by_cases c33 : t105 = true
                  · subst c33
                    have H1 : ((topic_Match.f kj10 a0 t104).bind fun t113 => (if t113 = true then ((topic_Match.f kj10 a1 t104).bind fun t114 => (some (!t114))) else (some false))) = some r := by rw [if_pos rfl] at H; exact H
                    clear H
                    have H := H1
                    clear H1
                    replace H := Option.bind_eq_some_iff.mp H
                    obtain ⟨t113, A340, H⟩ := H
                    replace H : (if t113 = true then ((topic_Match.f kj10 a1 t104).bind fun t114 => (some (!t114))) else (some false)) = some r := H
                    have A34 := Aside0.mk A340
                    clear A340
                    by_cases c35 : t113 = true
                    · subst c35
                      have H1 : ((topic_Match.f kj10 a1 t104).bind fun t114 => (some (!t114))) = some r := by rw [if_pos rfl] at H; exact H
                      clear H
                      have H := H1
                      clear H1
                      replace H := Option.bind_eq_some_iff.mp H
                      obtain ⟨t114, A360, H⟩ := H
                      replace H : (some (!t114)) = some r := H
                      have A36 := Aside0.mk A360
                      clear A360
                      obtain rfl := Option.some.inj H
                      go_wp2_with (first | (go_at_call 14; (with_reducible refine (topic_Match.calls kj10 a0 t102 true _ A29.out).mono ?_); rintro e w37 ⟨rfl, hb⟩; have n0_ := Aside0.mk (below_step (by repeat (first | (with_reducible first | exact HB.out | apply below_alloc | apply pw_below_drewN | apply below_drew1) | exact HB.out)) hb); clear HB; have HB := n0_; clear n0_; (try clear hb); (try clear hb2); (try clear hk); (try clear hi)) | (go_at_call 14; (with_reducible refine (topic_Match.calls kj10 a1 t102 true _ A31.out).mono ?_); rintro e w38 ⟨rfl, hb⟩; have n0_ := Aside0.mk (below_step (by repeat (first | (with_reducible first | exact HB.out | apply below_alloc | apply pw_below_drewN | apply below_drew1) | exact HB.out)) hb); clear HB; have HB := n0_; clear n0_; (try clear hb); (try clear hb2); (try clear hk); (try clear hi)) | (go_at_call 14; (with_reducible refine (topic_Match.calls kj10 a0 t104 true _ A34.out).mono ?_); rintro e w39 ⟨rfl, hb⟩; have n0_ := Aside0.mk (below_step (by repeat (first | (with_reducible first | exact HB.out | apply below_alloc | apply pw_below_drewN | apply below_drew1) | exact HB.out)) hb); clear HB; have HB := n0_; clear n0_; (try clear hb); (try clear hb2); (try clear hk); (try clear hi)) | (go_at_call 14; (with_reducible refine (topic_Match.calls kj10 a1 t104 t114 _ A36.out).mono ?_); rintro e w40 ⟨rfl, hb⟩; have n0_ := Aside0.mk (below_step (by repeat (first | (with_reducible first | exact HB.out | apply below_alloc | apply pw_below_drewN | apply below_drew1) | exact HB.out)) hb); clear HB; have HB := n0_; clear n0_; (try clear hb); (try clear hb2); (try clear hk); (try clear hi)))
                      go_ret
                      exact ⟨by first | rfl | (simp [errW_none, errW_some] <;> rfl) | (simp [*, errW_none, errW_some] <;> rfl), by repeat (first | (with_reducible first | exact HB.out | apply below_alloc | apply pw_below_drewN | apply below_drew1) | exact HB.out)⟩
                    · replace c35 := Bool.eq_false_iff.mpr c35
                      subst c35
                      have H1 : (some false) = some r := by rw [if_neg (show ¬ (false = true) by decide)] at H; exact H
                      clear H
                      have H := H1
                      clear H1
                      obtain rfl := Option.some.inj H
                      go_wp2_with (first | (go_at_call 14; (with_reducible refine (topic_Match.calls kj10 a0 t102 true _ A29.out).mono ?_); rintro e w41 ⟨rfl, hb⟩; have n0_ := Aside0.mk (below_step (by repeat (first | (with_reducible first | exact HB.out | apply below_alloc | apply pw_below_drewN | apply below_drew1) | exact HB.out)) hb); clear HB; have HB := n0_; clear n0_; (try clear hb); (try clear hb2); (try clear hk); (try clear hi)) | (go_at_call 14; (with_reducible refine (topic_Match.calls kj10 a1 t102 true _ A31.out).mono ?_); rintro e w42 ⟨rfl, hb⟩; have n0_ := Aside0.mk (below_step (by repeat (first | (with_reducible first | exact HB.out | apply below_alloc | apply pw_below_drewN | apply below_drew1) | exact HB.out)) hb); clear HB; have HB := n0_; clear n0_; (try clear hb); (try clear hb2); (try clear hk); (try clear hi)) | (go_at_call 14; (with_reducible refine (topic_Match.calls kj10 a0 t104 false _ A34.out).mono ?_); rintro e w43 ⟨rfl, hb⟩; have n0_ := Aside0.mk (below_step (by repeat (first | (with_reducible first | exact HB.out | apply below_alloc | apply pw_below_drewN | apply below_drew1) | exact HB.out)) hb); clear HB; have HB := n0_; clear n0_; (try clear hb); (try clear hb2); (try clear hk); (try clear hi)))
                      go_ret
                      exact ⟨by first | rfl | (simp [errW_none, errW_some] <;> rfl) | (simp [*, errW_none, errW_some] <;> rfl), by repeat (first | (with_reducible first | exact HB.out | apply below_alloc | apply pw_below_drewN | apply below_drew1) | exact HB.out)⟩
                  · replace c33 := Bool.eq_false_iff.mpr c33
                    subst c33
                    have H1 : (some true) = some r := by rw [if_neg (show ¬ (false = true) by decide)] at H; exact H
                    clear H
                    have H := H1
                    clear H1
                    obtain rfl := Option.some.inj H
                    go_wp2_with (first | (go_at_call 14; (with_reducible refine (topic_Match.calls kj10 a0 t102 true _ A29.out).mono ?_); rintro e w44 ⟨rfl, hb⟩; have n0_ := Aside0.mk (below_step (by repeat (first | (with_reducible first | exact HB.out | apply below_alloc | apply pw_below_drewN | apply below_drew1) | exact HB.out)) hb); clear HB; have HB := n0_; clear n0_; (try clear hb); (try clear hb2); (try clear hk); (try clear hi)) | (go_at_call 14; (with_reducible refine (topic_Match.calls kj10 a1 t102 true _ A31.out).mono ?_); rintro e w45 ⟨rfl, hb⟩; have n0_ := Aside0.mk (below_step (by repeat (first | (with_reducible first | exact HB.out | apply below_alloc | apply pw_below_drewN | apply below_drew1) | exact HB.out)) hb); clear HB; have HB := n0_; clear n0_; (try clear hb); (try clear hb2); (try clear hk); (try clear hi)))
                    go_ret
                    exact ⟨by first | rfl | (simp [errW_none, errW_some] <;> rfl) | (simp [*, errW_none, errW_some] <;> rfl), by repeat (first | (with_reducible first | exact HB.out | apply below_alloc | apply pw_below_drewN | apply below_drew1) | exact HB.out)⟩
                · replace c32 := Bool.eq_false_iff.mpr c32
                  subst c32
                  have H1 : (some false) = some r := by rw [if_neg (show ¬ (false = true) by decide)] at H; exact H
                  clear H
                  have H := H1
                  clear H1
                  obtain rfl := Option.some.inj H
                  go_wp2_with (first | (go_at_call 14; (with_reducible refine (topic_Match.calls kj10 a0 t102 true _ A29.out).mono ?_); rintro e w46 ⟨rfl, hb⟩; have n0_ := Aside0.mk (below_step (by repeat (first | (with_reducible first | exact HB.out | apply below_alloc | apply pw_below_drewN | apply below_drew1) | exact HB.out)) hb); clear HB; have HB := n0_; clear n0_; (try clear hb); (try clear hb2); (try clear hk); (try clear hi)) | (go_at_call 14; (with_reducible refine (topic_Match.calls kj10 a1 t102 false _ A31.out).mono ?_); rintro e w47 ⟨rfl, hb⟩; have n0_ := Aside0.mk (below_step (by repeat (first | (with_reducible first | exact HB.out | apply below_alloc | apply pw_below_drewN | apply below_drew1) | exact HB.out)) hb); clear HB; have HB := n0_; clear n0_; (try clear hb); (try clear hb2); (try clear hk); (try clear hi)))
                  go_ret
                  exact ⟨by first | rfl | (simp [errW_none, errW_some] <;> rfl) | (simp [*, errW_none, errW_some] <;> rfl), by repeat (first | (with_reducible first | exact HB.out | apply below_alloc | apply pw_below_drewN | apply below_drew1) | exact HB.out)⟩
              · replace c30 := Bool.eq_false_iff.mpr c30
                subst c30
                have H1 : (some false) = some r := by rw [if_neg (show ¬ (false = true) by decide)] at H; exact H
                clear H
                have H := H1
                clear H1
                obtain rfl := Option.some.inj H
                go_wp2_with (first | (go_at_call 14; (with_reducible refine (topic_Match.calls kj10 a0 t102 false _ A29.out).mono ?_); rintro e w48 ⟨rfl, hb⟩; have n0_ := Aside0.mk (below_step (by repeat (first | (with_reducible first | exact HB.out | apply below_alloc | apply pw_below_drewN | apply below_drew1) | exact HB.out)) hb); clear HB; have HB := n0_; clear n0_; (try clear hb); (try clear hb2); (try clear hk); (try clear hi)))
                go_ret
                exact ⟨by first | rfl | (simp [errW_none, errW_some] <;> rfl) | (simp [*, errW_none, errW_some] <;> rfl), by repeat (first | (with_reducible first | exact HB.out | apply below_alloc | apply pw_below_drewN | apply below_drew1) | exact HB.out)⟩
            · replace c28 := Bool.eq_false_iff.mpr c28
              subst c28
              have H1 : (if t105 = true then ((topic_Match.f kj10 a0 t104).bind fun t115 => (if t115 = true then ((topic_Match.f kj10 a1 t104).bind fun t116 => (some (!t116))) else (some false))) else (some true)) = some r := by rw [if_neg (show ¬ (false = true) by decide)] at H; exact H
              clear H
              have H := H1
              clear H1
              by_cases c49 : t105 = true
              · subst c49
                have H1 : ((topic_Match.f kj10 a0 t104).bind fun t115 => (if t115 = true then ((topic_Match.f kj10 a1 t104).bind fun t116 => (some (!t116))) else (some false))) = some r := by rw [if_pos rfl] at H; exact H
                clear H
                have H := H1
                clear H1
                replace H := Option.bind_eq_some_iff.mp H
                obtain ⟨t115, A500, H⟩ := H
                replace H : (if t115 = true then ((topic_Match.f kj10 a1 t104).bind fun t116 => (some (!t116))) else (some false)) = some r := H
                have A50 := Aside0.mk A500
                clear A500
                by_cases c51 : t115 = true
                · subst c51
                  have H1 : ((topic_Match.f kj10 a1 t104).bind fun t116 => (some (!t116))) = some r := by rw [if_pos rfl] at H; exact H
                  clear H
                  have H := H1
                  clear H1
                  replace H := Option.bind_eq_some_iff.mp H
                  obtain ⟨t116, A520, H⟩ := H
                  replace H : (some (!t116)) = some r := H
                  have A52 := Aside0.mk A520
                  clear A520
                  obtain rfl := Option.some.inj H
                  go_wp2_with (first | (go_at_call 14; (with_reducible refine (topic_Match.calls kj10 a0 t104 true _ A50.out).mono ?_); rintro e w53 ⟨rfl, hb⟩; have n0_ := Aside0.mk (below_step (by repeat (first | (with_reducible first | exact HB.out | apply below_alloc | apply pw_below_drewN | apply below_drew1) | exact HB.out)) hb); clear HB; have HB := n0_; clear n0_; (try clear hb); (try clear hb2); (try clear hk); (try clear hi)) | (go_at_call 14; (with_reducible refine (topic_Match.calls kj10 a1 t104 t116 _ A52.out).mono ?_); rintro e w54 ⟨rfl, hb⟩; have n0_ := Aside0.mk (below_step (by repeat (first | (with_reducible first | exact HB.out | apply below_alloc | apply pw_below_drewN | apply below_drew1) | exact HB.out)) hb); clear HB; have HB := n0_; clear n0_; (try clear hb); (try clear hb2); (try clear hk); (try clear hi)))
                  go_ret
                  exact ⟨by first | rfl | (simp [errW_none, errW_some] <;> rfl) | (simp [*, errW_none, errW_some] <;> rfl), by repeat (first | (with_reducible first | exact HB.out | apply below_alloc | apply pw_below_drewN | apply below_drew1) | exact HB.out)⟩
                · replace c51 := Bool.eq_false_iff.mpr c51
                  subst c51
                  have H1 : (some false) = some r := by rw [if_neg (show ¬ (false = true) by decide)] at H; exact H
                  clear H
                  have H := H1
                  clear H1
                  obtain rfl := Option.some.inj H
                  go_wp2_with (first | (go_at_call 14; (with_reducible refine (topic_Match.calls kj10 a0 t104 false _ A50.out).mono ?_); rintro e w55 ⟨rfl, hb⟩; have n0_ := Aside0.mk (below_step (by repeat (first | (with_reducible first | exact HB.out | apply below_alloc | apply pw_below_drewN | apply below_drew1) | exact HB.out)) hb); clear HB; have HB := n0_; clear n0_; (try clear hb); (try clear hb2); (try clear hk); (try clear hi)))
                  go_ret
                  exact ⟨by first | rfl | (simp [errW_none, errW_some] <;> rfl) | (simp [*, errW_none, errW_some] <;> rfl), by repeat (first | (with_reducible first | exact HB.out | apply below_alloc | apply pw_below_drewN | apply below_drew1) | exact HB.out)⟩
              · replace c49 := Bool.eq_false_iff.mpr c49
                subst c49
                have H1 : (some true) = some r := by rw [if_neg (show ¬ (false = true) by decide)] at H; exact H
                clear H
                have H := H1
                clear H1
                obtain rfl := Option.some.inj H
                go_wp2
                go_ret
                exact ⟨by first | rfl | (simp [errW_none, errW_some] <;> rfl) | (simp [*, errW_none, errW_some] <;> rfl), by repeat (first | (with_reducible first | exact HB.out | apply below_alloc | apply pw_below_drewN | apply below_drew1) | exact HB.out)⟩
    · replace c6 := Bool.eq_false_iff.mpr c6
      subst c6
      have H1 : (some false) = some r := by rw [if_neg (show ¬ (false = true) by decide)] at H; exact H
      clear H
      have H := H1
      clear H1
      obtain rfl := Option.some.inj H
      go_enter Try.func4, Try.ntmps4
      go_wp2_with (first | ((with_reducible refine gate_callee (f := 13) rfl ?_); refine goesL_ (some 22) rfl rfl Try.func13 (by kernel_rfl) rfl #[] rfl (by (try simp only [List.map_toArray, List.map_cons, List.map_nil]); first | done | rfl | (simp only [List.length_drop, List.length_take]; rfl)) ?_; (with_reducible refine (crierlaw6_known.calls  false _ A5.out).mono ?_); rintro e w56 ⟨rfl, hb⟩; refine ⟨_, rfl, ?_⟩; have n0_ := Aside0.mk (below_step (by repeat (first | (with_reducible first | exact HB.out | apply below_alloc | apply pw_below_drewN | apply below_drew1) | exact HB.out)) hb); clear HB; have HB := n0_; clear n0_; (try clear hb); (try clear hb2); (try clear hk); (try clear hi)))
      go_ret
      exact ⟨by first | rfl | (simp [errW_none, errW_some] <;> rfl) | (simp [*, errW_none, errW_some] <;> rfl), by repeat (first | (with_reducible first | exact HB.out | apply below_alloc | apply pw_below_drewN | apply below_drew1) | exact HB.out)⟩

/-- THE ONE PURE STATEMENT of crierlaw6_CoverTopics: yours. -/
def crierlaw6_CoverTopics.Pure : Prop := ∀ (a0 : ByteArray) (a1 : ByteArray) (a2 : ByteArray), a0.size ≤ 140737488351232 → a1.size ≤ 140737488351232 → a2.size ≤ 140737488351232 → ∃ k, crierlaw6_CoverTopics.f k a0 a1 a2 = some true
theorem crierlaw6_CoverTopics.walk (P : crierlaw6_CoverTopics.Pure) (a0 : ByteArray) (a1 : ByteArray) (a2 : ByteArray) (w : World) (w0 : a0.size ≤ 140737488351232) (w1 : a1.size ≤ 140737488351232) (w2 : a2.size ≤ 140737488351232) :
    Calls Try.prog 4 #[.string a0, .string a1, .string a2] w fun e w' => e = .returned (.bool true) ∧ Below w.heap.size w w' := by
  obtain ⟨k, h⟩ := P a0 a1 a2 w0 w1 w2
  refine (crierlaw6_CoverTopics.calls k a0 a1 a2 true w h).mono ?_
  rintro e w' ⟨rfl, hd⟩
  exact ⟨rfl, hd⟩

end Go.Proofs.Ytamelcgamlcliaa.LCoverTopics
