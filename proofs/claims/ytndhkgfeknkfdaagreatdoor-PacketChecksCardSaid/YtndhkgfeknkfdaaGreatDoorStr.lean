import Derived.Test.YtndhkgfeknkfdaaGreatDoorGiv
import Derived.Test.YtndhkgfeknkfdaaGreatDoorShelf
import Derived.Laws.Runes
import Derived.WalkMore
import Derived.SliceStrings
import Derived.ProofKit
import Derived.Lib.Strings
namespace Go.Proofs.YtndhkgfeknkfdaaGreatDoor.Giv
open Go.RowKit Go.Proofs.YtndhkgfeknkfdaaGreatDoorW.PrintWords Go.Proofs.YtndhkgfeknkfdaaGreatDoorW.PrintLast Go.Proofs.YtndhkgfeknkfdaaGreatDoorW.PrintMore
set_option linter.unusedVariables false
set_option linter.unusedSimpArgs false

abbrev sig : ByteArray := ⟨#[43, 35]⟩

theorem decode_valid (s : ByteArray) (i : Nat) : Utf8.valid ((Utf8.decode s i).1 : Int) = true := by
  have hb : (s.get! (i + 0)).toNat < 256 := (s.get! (i + 0)).toNat_lt
  simp only [Utf8.decode]
  repeat' split
  all_goals simp_all [Utf8.valid, Utf8.runeError]
  all_goals omega

theorem IndexByte_none (s : ByteArray) (c : Int) (w : World) (h : s.data.toList = []) :
    Calls Tryz.prog 216 #[.string s, .int .u8 c] w fun e w' => e = .returned (.int .i64 (-1)) ∧ w' = w := by
  refine (Tryz.strings_IndexByte s c w).mono ?_
  rintro e w' ⟨rfl, hw⟩
  refine ⟨?_, hw⟩
  rw [h]; rfl

set_option maxHeartbeats 8000000 in
set_option maxRecDepth 1000000 in
/-- strings.IndexRune of "+#" at a rune beyond ASCII: none. -/
theorem IndexRune_high (r : Int) (w : World) (h0 : 128 ≤ r) (hv : Utf8.valid r = true) :
    Calls Tryz.prog 211 #[.string sig, .int .i32 r] w fun e w' => e = .returned (.int .i64 (-1)) ∧ Below w.heap.size w w' := by
  have hlo : ¬ r < 128 := by omega
  have h0b := eq_true (show 0 ≤ r by omega)
  by_cases hf : r = 65533
  · subst hf
    go_enter Tryz.func211, Tryz.ntmps211
    go_wp2
    go_loopg [5, 6] 3 (fun kq v5 v6 w' => ∃ i : Nat, i ≤ 2 ∧ 2 < i + kq ∧ Aside0 (w'.heap[w.heap.size]? = some (.stringIter sig i)) ∧ Aside0 (Below w.heap.size w w'))
    case atStart => exact ⟨0, by omega, by omega, ⟨World.iter_heap w sig 0⟩, ⟨(Below.refl _ _).alloc (Nat.le_refl _) _⟩⟩
    case round =>
      obtain ⟨i, hi, hk, HI, HB⟩ := hrel
      cases gk with
      | zero => omega
      | succ k1 =>
        by_cases hlt : i < 2
        · have hnx := fun ty => Lib.run_next_any_at (P := Tryz.prog) wr w.heap.size sig i ty HI.out hlt
          have hd : ((Utf8.decode sig i).1 = 43 ∨ (Utf8.decode sig i).1 = 35) ∧ (Utf8.decode sig i).2 = 1 := by
            have : i = 0 ∨ i = 1 := by omega
            rcases this with rfl | rfl
            · decide
            · decide
          obtain ⟨c, hc⟩ : ∃ c, (Utf8.decode sig i).1 = c := ⟨_, rfl⟩
          rw [hc] at hd
          simp only [hc, hd.2] at hnx
          have hcb : ((c : Int) == 65533) = false := beq_eq_false_iff_ne.mpr (by omega)
          clear hd hc
          have HI2 := Aside0.mk (Lib.iterAt_heap wr w.heap.size sig i (i + 1) HI.out)
          have HB2 := Aside0.mk (Lib.below_iterAt HB.out (Nat.le_refl _) sig (i + 1))
          clear HI HB
          go_wp2
          go_roundg k1
          case measure => omega
          case rel => exact ⟨i + 1, by omega, by omega, HI2, HB2⟩
        · have hnx := fun ty => Lib.run_next_end_at (P := Tryz.prog) wr w.heap.size sig i ty HI.out (show ¬ i < sig.size from hlt)
          go_wp2
          go_ret
          exact ⟨rfl, HB.out⟩
  · have hfb : (r == 65533) = false := beq_eq_false_iff_ne.mpr hf
    have hvr : Lib.validRune r = true := by
      unfold Utf8.valid at hv
      unfold Lib.validRune
      simp only [Bool.or_eq_true, Bool.and_eq_true, decide_eq_true_eq] at hv
      rw [decide_eq_true_eq]; omega
    have hen := encode_facts r hv h0
    obtain ⟨s1, hs1⟩ : ∃ s1, Utf8.encode r = s1 := ⟨_, rfl⟩
    rw [hs1] at hen
    have hcv := fun (W : World) => run_convert_int_string (P := Tryz.prog) W 21 9 .i32 r (by kernel_rfl) Tryz.underlying9
    rw [hs1] at hcv
    have HS := Aside0.mk hs1
    clear hs1 hv hf
    obtain ⟨hn2, hn4, hlast⟩ := hen
    by_cases hn : s1.size = 2
    · obtain ⟨y, x, rfl⟩ : ∃ y x : UInt8, s1 = ⟨#[y, x]⟩ := by
        obtain ⟨⟨l⟩⟩ := s1
        match l, hn with
        | [y, x], _ => exact ⟨y, x, rfl⟩
      have hb : 128 ≤ x.toNat := hlast (by omega)
      have hne : (((sig[1]'(by decide)).toNat : Int) != (((⟨#[y, x]⟩ : ByteArray)[1]'(by show 1 < 2; omega)).toNat : Int)) = true := by
        show ((35 : Int) != (x.toNat : Int)) = true
        rw [bne_iff_ne]; omega
      clear hn hlast hn2 hn4
      go_enter Tryz.func211, Tryz.ntmps211
      go_wp2_with (go_at_call 217; refine (Tryz.utf8_ValidRune _ _).mono ?_; rintro e w' ⟨rfl, hw⟩; rw [hw, hvr])
      go_step3
      go_wp2
      refine wp_loop_rounds 1 ?_
      rw [rounds_succ]
      go_wp2
      go_step3
      go_wp2
      go_quiet (fail)
      have HB1 := Aside0.mk (pw_below_drewN (Below.refl w.heap.size w) nq)
      generalize w.drewN nq = w1 at *
      go_wp2
      go_quiet ((go_at_call 216; refine Calls.quiet_of_same (IndexByte_none _ _ _ rfl)))
      go_wp2
      rw [Exit.noGoto_ret]
      go_wp2
      rw [Exit.noGoto_ret]
      go_ret
      exact ⟨rfl, pw_below_drewN HB1.out _⟩
    · have hx : decide ((s1.size : Int) - 1 < 2) = false := decide_eq_false (by omega)
      clear hlast
      go_enter Tryz.func211, Tryz.ntmps211
      go_wp2_with (go_at_call 217; refine (Tryz.utf8_ValidRune _ _).mono ?_; rintro e w' ⟨rfl, hw⟩; rw [hw, hvr])
      go_step3
      go_wp2
      refine wp_loop_rounds 1 ?_
      rw [rounds_succ]
      go_wp2
      rw [Exit.noGoto_ret]
      go_ret
      exact ⟨rfl, Below.refl _ _⟩
theorem info256 : (Tryz.prog.info? 198).map (fun i => (i.zero, i.size)) = some (some (.agg (Array.replicate 256 (.bool false))), 256) := by kernel_rfl
theorem NoAny_on {s : ByteArray} {i n : Nat} (h : Lib.NoAny (Cr.bl s) (Cr.bl sig) i) (hn : i + n ≤ s.size) (hc : ∀ j, i ≤ j → j < i + n → 128 ≤ (s.get! j).toNat) : Lib.NoAny (Cr.bl s) (Cr.bl sig) (i + n) := by
  intro j b hj hb
  by_cases h1 : j < i
  · exact h j b h1 hb
  · have h2 := hc j (by omega) hj
    have hjs : j < s.size := by omega
    rw [Cr.get_bl s j hjs] at h2
    rw [List.getElem?_eq_getElem (by rw [Cr.bl_len]; exact hjs)] at hb
    simp only [Option.some.injEq] at hb
    rw [hb] at h2
    show ([43, 35] : List UInt8).contains b = false
    cases hcb : ([43, 35] : List UInt8).contains b with
    | false => rfl
    | true =>
      simp at hcb
      rcases hcb with rfl | rfl <;> simp at h2

def asc (x : UInt8) : Int := Lib.indexByte (Cr.bl sig) x
theorem IndexRune_asc (x : UInt8) (w : World) (h : x.toNat < 128) :
    Calls Tryz.prog 211 #[.string sig, .int .i32 (x.toNat : Int)] w fun e w' => e = .returned (.int .i64 (asc x)) ∧ w' = w := by
  refine (Tryz.strings_IndexRune_ascii sig _ w (by omega) (by omega)).mono ?_
  rintro e w' ⟨rfl, hw⟩
  refine ⟨?_, hw⟩
  rw [show ((x.toNat : Int)).toNat.toUInt8 = x by simp]; rfl

set_option maxHeartbeats 8000000 in
set_option maxRecDepth 1000000 in
theorem IndexAny_short (s : ByteArray) (w : World) (h8 : s.size ≤ 8) :
    Calls Tryz.prog 204 #[.string s, .string sig] w fun e w' => e = .returned (.int .i64 (Lib.indexAny (Cr.bl s) (Cr.bl sig))) ∧ Below w.heap.size w w' := by
  have h8z : decide ((8 : Int) < (s.size : Int)) = false := decide_eq_false (by omega)
  go_enter Tryz.func204, Tryz.ntmps204
  go_wp2_with (go_at_call 212; refine (Tryz.strings_shouldUseASCIISet _ _).mono ?_; rintro e w' ⟨rfl, hw⟩; rw [hw, h8z])
  go_loopg [9, 10] (s.size + 1) (fun kq _ _ w' => ∃ i : Nat, i ≤ s.size ∧ s.size < i + kq ∧ Aside0 (Lib.NoAny (Cr.bl s) (Cr.bl sig) i) ∧ Aside0 (w'.heap[w.heap.size]? = some (.stringIter s i)) ∧ Aside0 (Below w.heap.size w w'))
  case atStart => exact ⟨0, Nat.zero_le _, by omega, ⟨Lib.NoAny.zero _ _⟩, ⟨World.iter_heap w s 0⟩, ⟨(Below.refl _ _).alloc (Nat.le_refl _) _⟩⟩
  case round =>
    obtain ⟨i, hi, hk, HN, HI, HB⟩ := hrel
    cases gk with
    | zero => omega
    | succ k1 =>
      by_cases hlt : i < s.size
      · have hnx := fun ty => Lib.run_next_any_at (P := Tryz.prog) wr w.heap.size s i ty HI.out hlt
        have hdl := Cr.decode_le' s i
        have hdw := Cr.decode_width s i hlt
        have hds := Cr.decode_small s i hlt
        have hv := decode_valid s i
        obtain ⟨c, hc⟩ : ∃ c, (Utf8.decode s i).1 = c := ⟨_, rfl⟩
        obtain ⟨n, hn⟩ : ∃ n, (Utf8.decode s i).2 = n := ⟨_, rfl⟩
        have hcn : Utf8.decode s i = (c, n) := by rw [← hc, ← hn]
        rw [hcn] at hds hdw hdl hv
        simp only [hcn] at hnx
        clear hc hn hcn
        have hd1 := hdw.1
        have hd2 := hdw.2.1
        have HD3 := Aside0.mk hdw.2.2
        have HV := Aside0.mk hv
        simp only [] at hd1 hd2
        clear hdw hv
        have HI2 := Aside0.mk (Lib.iterAt_heap wr w.heap.size s i (i + n) HI.out)
        have HB2 := Aside0.mk (Lib.below_iterAt HB.out (Nat.le_refl _) s (i + n))
        clear HI HB
        rcases hds with ⟨hb, he⟩ | ⟨hb, he⟩
        · simp only [Prod.mk.injEq] at he
          obtain ⟨he1, he2⟩ := he
          subst he2
          have hx : (Cr.bl s)[i]? = some (s.get! i) := by
            rw [List.getElem?_eq_getElem (by rw [Cr.bl_len]; exact hlt), Cr.get_bl s i hlt]
          obtain ⟨x, hxe⟩ : ∃ x, s.get! i = x := ⟨_, rfl⟩
          rw [hxe] at hx he1 hb
          subst he1
          have HX := Aside0.mk hx
          clear hx hxe
          have hcon := Lib.contains_iff_indexByte (Cr.bl sig) x
          cases hin : (Cr.bl sig).contains x
          · rw [hin] at hcon
            have hlt2 : ¬ ((0 : Int) ≤ asc x) := of_decide_eq_false hcon.symm
            have HN2 := Aside0.mk (HN.out.succ HX.out hin)
            clear hcon hin
            go_wp2_with (go_at_call 211; refine (IndexRune_asc x _ hb).mono ?_; rintro e w' ⟨rfl, hw⟩; rw [hw])
            go_roundg k1
            case measure => omega
            case rel => exact ⟨i + 1, hd2, by omega, HN2, HI2, HB2⟩
          · rw [hin] at hcon
            have hge : (0 : Int) ≤ asc x := of_decide_eq_true hcon.symm
            have HIN := Aside0.mk hin
            clear hcon hin
            go_wp2_with (go_at_call 211; refine (IndexRune_asc x _ hb).mono ?_; rintro e w' ⟨rfl, hw⟩; rw [hw])
            go_ret
            exact ⟨by rw [Lib.indexAny_hit HN.out HX.out HIN.out]; rfl, HB2.out⟩
        · have HN2 := Aside0.mk (NoAny_on HN.out hd2 (by
            intro j h1 h2
            by_cases hj : j = i
            · subst hj; exact hb
            · exact HD3.out j (by omega) h2))
          clear HN HD3
          go_wp2_with (go_at_call 211; refine (IndexRune_high _ _ (by omega) HV.out).mono ?_; rintro e w2 ⟨rfl, hb2⟩)
          have HI3 := Aside0.mk ((hb2.block _ (Array.getElem?_eq_some_iff.1 HI2.out).1).trans HI2.out)
          have HB3 := Aside0.mk (below_step HB2.out hb2)
          clear hb2 HI2 HB2
          go_roundg k1
          case measure => omega
          case rel => exact ⟨i + n, hd2, by omega, HN2, HI3, HB3⟩
      · have hnx := fun ty => Lib.run_next_end_at (P := Tryz.prog) wr w.heap.size s i ty HI.out hlt
        obtain rfl : i = s.size := by omega
        go_wp2
        go_ret
        exact ⟨by rw [Lib.indexAny_none (by rw [Cr.bl_len]; exact HN.out)]; rfl, HB.out⟩
theorem indexAny_wild : ∀ s : List UInt8, decide (0 ≤ Lib.indexAny s [43, 35]) = Cr.wildIn s
  | [] => by simp [Lib.indexAny, Cr.wildIn]
  | b :: l => by
    have ih := indexAny_wild l
    have hge := Lib.indexAny_ge [43, 35] l
    unfold Lib.indexAny
    by_cases hb : b = 43 ∨ b = 35
    · have h1 : ([43, 35] : List UInt8).contains b = true := by simpa using hb
      rw [if_pos h1]
      have : Cr.wildIn (b :: l) = true := by rcases hb with rfl | rfl <;> simp [Cr.wildIn]
      simp [this]
    · have h1 : ([43, 35] : List UInt8).contains b = false := by
        cases hc : ([43, 35] : List UInt8).contains b with
        | false => rfl
        | true => exact absurd (by simpa using hc) hb
      rw [h1]
      have h2 : Cr.wildIn (b :: l) = Cr.wildIn l := by
        have : (b == 43 || b == 35) = false := by simpa [not_or] using hb
        simp [Cr.wildIn, this]
      rw [h2, ← ih]
      simp only [Bool.false_eq_true, if_false]
      by_cases h3 : Lib.indexAny l [43, 35] = -1
      · rw [h3]; simp
      · have : (Lib.indexAny l [43, 35] == -1) = false := beq_eq_false_iff_ne.mpr h3
        rw [this]
        simp only [Bool.false_eq_true, if_false]
        rw [decide_eq_decide]; omega

/-! ### strings.ContainsAny (of "+#") -/
def strings_ContainsAny.f (a0 : ByteArray) (a1 : ByteArray) : Option (Bool) := if Cr.bl a1 = [43, 35] ∧ a0.size ≤ 4294967280 then some (Cr.wildIn (Cr.bl a0)) else none
theorem IndexAny_sig (s : ByteArray) (w : World) (h : s.size ≤ 4294967280) :
    Calls Tryz.prog 204 #[.string s, .string sig] w fun e w' => e = .returned (.int .i64 (Lib.indexAny (Cr.bl s) (Cr.bl sig))) ∧ Below w.heap.size w w' := by
  by_cases h8 : s.size ≤ 8
  · exact IndexAny_short s w h8
  · refine (Tryz.strings_IndexAny_long (zero_of_info info256).1 s sig w (by show 2 ≤ 2; omega) (by omega) (by omega) (by show 2 < 4294967281; omega) ?_).mono ?_
    · intro j b hb
      have : j = 0 ∨ j = 1 ∨ 2 ≤ j := by omega
      rcases this with rfl | rfl | h
      · simp at hb; subst hb; decide
      · simp at hb; subst hb; decide
      · rw [List.getElem?_eq_none (by simpa using h)] at hb; cases hb
    · rintro e w' ⟨rfl, rfl⟩
      exact ⟨rfl, ((Below.refl _ _).alloc (Nat.le_refl _) _).alloc (by simp) _⟩
set_option maxHeartbeats 8000000 in
set_option maxRecDepth 100000 in
theorem strings_ContainsAny.calls (a0 : ByteArray) (a1 : ByteArray) (r : Bool) (w : World) (h : strings_ContainsAny.f a0 a1 = some r) :
    Calls Tryz.prog 145 #[.string a0, .string a1] w fun e w' => e = .returned (.bool r) ∧ Below w.heap.size w w' := by
  unfold strings_ContainsAny.f at h
  split at h
  · rename_i hc
    obtain ⟨hc1, hc2⟩ := hc
    obtain rfl : a1 = sig := bl_inj hc1
    obtain rfl := Option.some.inj h
    have HE := Aside0.mk (indexAny_wild (Cr.bl a0))
    have c := IndexAny_sig a0 w hc2
    obtain ⟨i, hi⟩ : ∃ i, Lib.indexAny (Cr.bl a0) (Cr.bl sig) = i := ⟨_, rfl⟩
    rw [hi] at c
    have HI := Aside0.mk (show Lib.indexAny (Cr.bl a0) [43, 35] = i from hi)
    clear hi hc1 h
    go_enter Tryz.func145, Tryz.ntmps145
    go_wp2_with (go_at_call 204; refine c.mono ?_; rintro e w' ⟨rfl, hw⟩)
    go_ret
    exact ⟨by rw [← HE.out, HI.out]; rfl, hw⟩
  · cases h

theorem Cr_cell_lt {w : World} {a : Addr} {v : Value} (h : w.cell? a = some v) : a.block < w.heap.size := by
  unfold World.cell? at h
  split at h
  · rename_i hb; exact (Array.getElem?_eq_some_iff.1 hb).1
  · cases h
end Go.Proofs.YtndhkgfeknkfdaaGreatDoor.Giv
