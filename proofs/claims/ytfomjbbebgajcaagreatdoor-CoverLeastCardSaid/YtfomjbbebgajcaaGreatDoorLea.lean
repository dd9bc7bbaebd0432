/- The walk of Within and of Least. -/
import Derived.Test.YtfomjbbebgajcaaGreatDoorOut
namespace Go.Proofs.YtfomjbbebgajcaaGreatDoor.Giv
open Go.RowKit Go.Proofs.YtfomjbbebgajcaaGreatDoorW.PrintWords Go.Proofs.YtfomjbbebgajcaaGreatDoorW.PrintLast Go.Proofs.YtfomjbbebgajcaaGreatDoorW.PrintMore Go.Proofs.YtfomjbbebgajcaaGreatDoor.MCoverLeast
open Go.Proofs.YtfomjbbebgajcaaGreatDoorW.PrintWords.Aside0 renaming mk → am
set_option linter.unusedVariables false
set_option linter.unusedSimpArgs false

def cover_Within.f (a0 : ByteArray) (a1 : ByteArray) : Option Bool := if a0.size ≤ big ∧ a1.size ≤ big then some (Cr.within (Cr.bl a0) (Cr.bl a1)) else none
set_option maxHeartbeats 8000000 in
set_option maxRecDepth 100000 in
theorem cover_Within.calls (a0 : ByteArray) (a1 : ByteArray) (r : Bool) (w : World) (h : cover_Within.f a0 a1 = some r) :
  Calls Tryz.prog 16 #[.string a0, .string a1] w fun e w' => e = .returned (.bool r) ∧ Below w.heap.size w w' := by
 unfold cover_Within.f at h
 have hs : a0.size ≤ big ∧ a1.size ≤ big := by
  split at h
  ·assumption
  ·cases h
 rw [if_pos hs] at h
 obtain ⟨o, ho⟩ : ∃ o, Cr.outside (Cr.bl a0) (Cr.bl a1) = o := ⟨_, rfl⟩
 obtain ⟨s, ok, hsk⟩ : ∃ s ok, ans o = (s, ok) := ⟨_, _, rfl⟩
 have hf : cover_Outside.f a0 a1 = some (s, ok) := by
  unfold cover_Outside.f
  rw [if_pos hs, ho, hsk]
 have hr : r = !ok := by
  have := Option.some.inj h
  rw [← this]
  unfold Cr.within
  rw [ho]
  cases o with
  | none => simp [ans] at hsk; rw [hsk.2]; rfl
  | some x => simp [ans] at hsk; rw [hsk.2]; rfl
 subst hr
 have HF := am hf
 clear hf h hsk ho
 have HB0 := am (Below.refl w.heap.size w)
 go_enter Tryz.func16, Tryz.ntmps16
 go_wp2_with (go_at_call 60; (with_reducible refine (cover_Outside.calls a0 a1 s ok _ HF.out).mono ?_); rintro e w1 ⟨rfl, hb⟩; have HB1 := am hb; clear hb)
 go_ret
 exact ⟨by first | rfl | simp, by repeat (first | exact HB1.out | apply pw_below_drewN | apply below_drew1)⟩

theorem add_g (g k : Nat) : (⟨g, 0, none⟩ : Addr).add k = ⟨g, k, none⟩ := by
 unfold Addr.add
 by_cases h : k = 0
 ·simp [h]
 ·simp [h]

/-- is the filter at i within another one -/
def hitL (l : List ByteArray) (i : Nat) : Bool := (List.range l.length).any fun k => decide (k ≠ i) && Cr.within (Cr.bl (rdOf ByteArray.empty l (i : Int))) (Cr.bl (rdOf ByteArray.empty l (k : Int)))
def leastGo : Nat → List ByteArray → List ByteArray
 | 0, l => l
 | i + 1, l => leastGo i (if hitL l i = true then l.eraseIdx i else l)
def cover_Least.f (l0 : List ByteArray) : Option (List ByteArray) := if l0.length ≤ big ∧ ∀ x ∈ l0, x.size ≤ big then some (leastGo l0.length l0) else none
theorem hit_yes {l : List ByteArray} {i k : Nat} (hk : k < l.length) (hne : k ≠ i) (h : Cr.within (Cr.bl (rdOf ByteArray.empty l (i : Int))) (Cr.bl (rdOf ByteArray.empty l (k : Int))) = true) : hitL l i = true := by
 unfold hitL
 rw [List.any_eq_true]
 exact ⟨k, List.mem_range.2 hk, by simp [hne, h]⟩
theorem hit_no {l : List ByteArray} {i : Nat} (h : ∀ k, k < l.length → k ≠ i → Cr.within (Cr.bl (rdOf ByteArray.empty l (i : Int))) (Cr.bl (rdOf ByteArray.empty l (k : Int))) = false) : hitL l i = false := by
 unfold hitL
 rw [List.any_eq_false]
 intro k hk
 have := List.mem_range.1 hk
 by_cases hne : k = i
 ·simp [hne]
 ·simp [hne, h k this hne]
theorem erase_mem {l : List ByteArray} {i : Nat} (h : ∀ x ∈ l, x.size ≤ big) : ∀ x ∈ l.eraseIdx i, x.size ≤ big := fun x hx => h x (List.mem_of_mem_eraseIdx hx)
set_option maxHeartbeats 8000000 in
set_option maxRecDepth 100000 in
theorem cover_Least.calls (A0 : Option Addr) (c0 : Nat) (l0 : List ByteArray) (r : List ByteArray) (w : World) (hr0 : Kd.C Kd.string w A0 l0.length l0) (hc0 : l0.length ≤ c0) (h : cover_Least.f l0 = some r) :
  Calls Tryz.prog 8 #[.slice A0 l0.length c0] w fun e w' => ∃ v0_ : Value, e = .returned (v0_) ∧ Kd.R Kd.string 9 w' w.heap.size (fun _ => True) v0_ r ∧ Below w.heap.size w w' := by
 unfold cover_Least.f at h
 have hs : l0.length ≤ big ∧ ∀ x ∈ l0, x.size ≤ big := by
  split at h
  ·assumption
  ·cases h
 rw [if_pos hs] at h
 have hl := hs.1
 have HSZ := am hs.2
 have HT := am (Option.some.inj h)
 have HC := am hr0
 have HCC := am hc0
 have HB0 := am (Below.refl w.heap.size w)
 clear h hs hr0 hc0
 simp only [big] at hl
 go_enter Tryz.func8, Tryz.ntmps8
 go_wp2_with fail
 go_step3
 go_wp2_with ((with_reducible refine gate_builtin (b := .append) (xs := #[.const (.slice none 0 0), .tmp 7]) rfl ?_); at_builtin; refine Kd.R_append_rows Kd.string (w0 := w) w.heap.size rfl (.const (.slice none 0 0)) (.tmp 7) 22 9 (.string ⟨#[]⟩) 16 rfl Tryz.underlying22 info9 rfl (by decide) (by omega) (.slice none 0 0) [] l0 _ _ _ (fun _ => True) (fun _ => False) rfl rfl (Kd.R_nil _ _ _ _ _) HC.out (fun _ _ h => h) (fun _ h => h.elim) (fun _ _ => trivial) HB0.out (Nat.le_refl _) ?aL ?_; (case aL => simp; omega); intro v1 w1 ho hb hg hat; rw [List.nil_append] at ho; obtain ⟨A1, c1, rfl⟩ := Kd.R_slice ho; have HO1 := am ho; have HB1 := am hb; clear ho hb hg hat)
 go_wp2
 go_step3
 go_wp2
 clear HC HCC HB0
 go_loopg [3, 4, 5, 6, 18] (l0.length + 1) (fun kq v3 v4 v5 v6 v18 w' => ∃ (m : Nat) (L : List ByteArray) (A : Option Addr) (c : Nat), v3 = .slice A L.length c ∧ v4 = .int .i64 ((m : Int) - 1) ∧ m ≤ L.length ∧ L.length ≤ 4294967280 ∧ m < kq ∧ Aside0 (leastGo m L = r) ∧ Aside0 (∀ x ∈ L, x.size ≤ big) ∧ Aside0 (Kd.R Kd.string 9 w' w.heap.size (fun _ => True) (.slice A L.length c) L) ∧ Aside0 (Below w.heap.size w w'))
 case atStart => exact ⟨l0.length, l0, A1, c1, rfl, rfl, Nat.le_refl _, hl, by omega, HT, HSZ, HO1, HB1⟩
 case round =>
  clear HO1 HB1 HT HSZ
  obtain ⟨m, L, A, c, rfl, rfl, hm, hL, hk, HT, HSZ, HO, HB⟩ := hrel
  cases gk with
  | zero => omega
  | succ k1 =>
   cases m with
   | zero =>
    have hneg : ¬ ((0 : Int) ≤ ((0 : Nat) : Int) - 1) := by omega
    have hneg2 : decide ((((0 : Nat) : Int) - 1) ≥ 0) = false := by decide
    have HT2 : Aside0 (L = r) := ⟨HT.out⟩
    clear HT
    go_wp2
    repeat rw [Exit.noGoto_ret]
    go_ret
    exact ⟨_, rfl, by rw [← HT2.out]; exact HO.out, HB.out⟩
   | succ i =>
    have hge : (0 : Int) ≤ (i : Int) := by omega
    have hiL : i < L.length := by omega
    obtain ⟨iv, hiv⟩ : ∃ iv : Int, ((i + 1 : Nat) : Int) - 1 = iv := ⟨_, rfl⟩
    have hiv2 : iv = (i : Int) := by omega
    rw [hiv, hiv2]
    clear hiv hiv2
    go_wp2
    go_loopg [3, 5, 6, 18] (L.length + 1) (fun kq v3 v5 v6 v18 w' => ∃ k : Nat, v3 = .slice A L.length c ∧ v18 = .int .i64 k ∧ k ≤ L.length ∧ L.length < k + kq ∧ Aside0 (∀ j, j < k → j ≠ i → Cr.within (Cr.bl (rdOf ByteArray.empty L (i : Int))) (Cr.bl (rdOf ByteArray.empty L (j : Int))) = false) ∧ Aside0 (Kd.R Kd.string 9 w' w.heap.size (fun _ => True) (.slice A L.length c) L) ∧ Aside0 (Below w.heap.size w w'))
    case atStart => exact ⟨0, rfl, rfl, Nat.zero_le _, by omega, ⟨fun j hj => by omega⟩, HO, HB⟩
    case round =>
     clear HO HB
     obtain ⟨k, rfl, rfl, hkL, hkk, HN, HO, HB⟩ := hrel
     cases gk with
     | zero => omega
     | succ k2 =>
      by_cases hlt : k < L.length
      ·obtain ⟨ad, eA, hxi⟩ := R_first HO.out i hiL
       obtain ⟨_, eA2, hxk⟩ := R_first HO.out k hlt
       cases eA.symm.trans eA2
       obtain ⟨g, cg, eg, hg0⟩ := R_addr HO.out (by rintro rfl; simp at hlt)
       simp only [Value.slice.injEq] at eg
       obtain ⟨eg1, _, eg2⟩ := eg
       subst eg1
       cases eA
       clear eA2 eg2
       rw [add_g] at hxi hxk
       have hdk := eq_true hlt
       by_cases hki : k = i
       ·subst hki
        have hN2 := am (show ∀ j, j < k + 1 → j ≠ k → Cr.within (Cr.bl (rdOf ByteArray.empty L (k : Int))) (Cr.bl (rdOf ByteArray.empty L (j : Int))) = false from fun j hj hne => HN.out j (by omega) hne)
        clear HN
        go_wp2
        go_roundg k2
        case measure => omega
        case rel => exact ⟨k + 1, rfl, by simp, by omega, by omega, hN2, HO, HB⟩
       ·have hkb : ((k : Int) != (i : Int)) = true := bne_iff_ne.2 (by omega)
        have hkb2 : ((k : Int) == (i : Int)) = false := beq_eq_false_iff_ne.2 (by omega)
        obtain ⟨xi, hxie⟩ : ∃ x, L[i] = x := ⟨_, rfl⟩
        obtain ⟨xk, hxke⟩ : ∃ x, L[k] = x := ⟨_, rfl⟩
        obtain ⟨hit, hhit⟩ : ∃ hit, Cr.within (Cr.bl xi) (Cr.bl xk) = hit := ⟨_, rfl⟩
        have hwf : cover_Within.f xi xk = some hit := by
         unfold cover_Within.f
         rw [if_pos ⟨by rw [← hxie]; exact HSZ.out _ (List.getElem_mem hiL), by rw [← hxke]; exact HSZ.out _ (List.getElem_mem hlt)⟩, hhit]
        have HWF := am hwf
        have HHW := am (show Cr.within (Cr.bl (rdOf ByteArray.empty L (i : Int))) (Cr.bl (rdOf ByteArray.empty L (k : Int))) = hit by rw [rd_at L i hiL, rd_at L k hlt, hxie, hxke, hhit])
        have HKI := am hki
        rw [hxie] at hxi
        rw [hxke] at hxk
        clear hxie hxke hhit hwf hki
        cases hit with
        | false =>
         have hN2 := am (show ∀ j, j < k + 1 → j ≠ i → Cr.within (Cr.bl (rdOf ByteArray.empty L (i : Int))) (Cr.bl (rdOf ByteArray.empty L (j : Int))) = false from fun j hj hne => by
          by_cases hjk : j = k
          ·rw [hjk]; exact HHW.out
          ·exact HN.out j (by omega) hne)
         clear HN
         go_wp2_with (go_at_call 16; (with_reducible refine (cover_Within.calls xi xk false _ HWF.out).mono ?_); rintro e w5 ⟨rfl, hb⟩; have HO5 := am (Kd.R_below HO.out hb); have HB5 := am (below_step HB.out hb); clear hb)
         go_roundg k2
         case measure => omega
         case rel => exact ⟨k + 1, rfl, by simp, by omega, by omega, hN2, HO5, HB5⟩
        | true =>
         have HT2 : Aside0 (leastGo i (L.eraseIdx i) = r) := ⟨by
          have := HT.out
          rw [leastGo, hit_yes hlt HKI.out HHW.out] at this
          exact this⟩
         have HSZ2 := am (erase_mem (i := i) HSZ.out)
         obtain ⟨L2, hL2⟩ : ∃ L2, L.eraseIdx i = L2 := ⟨_, rfl⟩
         have hL2n : L2.length = L.length - 1 := by rw [← hL2, List.length_eraseIdx_of_lt hiL]
         rw [hL2] at HT2 HSZ2
         have HL2 := am hL2
         have HL2N := am hL2n
         obtain ⟨i0, hi0, _, hsz, _⟩ := info_parts info9
         have hcap := (Kd.R_reads' HO.out).2.1
         have hcut := cut_to (P := Tryz.prog) 22 9 .i64 Tryz.underlying22 hi0 (some (⟨g, 0, none⟩ : Addr)) L.length c (i : Int) (by omega) (by omega) hcap
         have hcut2 := cut_from (P := Tryz.prog) 22 9 .i64 Tryz.underlying22 hi0 1 hsz (some (⟨g, 0, none⟩ : Addr)) L.length c ((i : Int) + 1) (by omega) (by omega)
         obtain ⟨A9, hA9⟩ : ∃ A9, A9 = (if c = ((i : Int) + 1).toNat then (some (⟨g, 0, none⟩ : Addr)) else (some (⟨g, 0, none⟩ : Addr)).map (·.add (((i : Int) + 1).toNat * 1))) := ⟨_, rfl⟩
         obtain ⟨m9, hm9⟩ : ∃ m9, m9 = L.length - ((i : Int) + 1).toNat := ⟨_, rfl⟩
         obtain ⟨c9, hc9⟩ : ∃ c9, c9 = c - ((i : Int) + 1).toNat := ⟨_, rfl⟩
         rw [← hA9, ← hm9, ← hc9] at hcut2
         simp only [Int.toNat_natCast] at hcut
         have hi1 : ((i : Int) + 1).toNat = i + 1 := by omega
         rw [hi1] at hA9 hm9
         have HA9 := am hA9
         have HM9 := am hm9
         clear hA9 hm9 hc9 hi1 hi0 hsz hL2 hL2n HT HSZ HN
         have hle : i ≤ L.length := by omega
         go_upto_if 33 with (go_at_call 16; (with_reducible refine (cover_Within.calls xi xk true _ HWF.out).mono ?_); rintro e w5 ⟨rfl, hb⟩; have HO5 := am (Kd.R_below HO.out hb); have HB5 := am (below_step HB.out hb); clear hb)
         clear HO HB hxi hxk
         go_wp2_with fail
         have hi9 : (i : Int) ≤ 9223372036854775806 := by omega
         have hwr : IntKind.i64.wrap ((i : Int) + 1) = (i : Int) + 1 := by rw [i64_w]; exact wrap_in hge hi9
         go_region_law (refine Kd.R_delete_step Kd.string (w0 := w) w.heap.size (by rfl) (.tmp 36) (.tmp 40) 22 9 (by rfl) Tryz.underlying22 (by kernel_rfl) (g := g) (n := L.length) (c := c) (m := m9) (c2 := c9) (A := A9) (k := i) (by simp [Act.eval, Act.put]) (by simp [Act.eval, Act.put]) ?hA ?hm (Kd.R_drew HO5.out) ?hk (below_drew1 HB5.out) (below_size (below_drew1 HB5.out)) ?_; (case hA => exact HA9.out); (case hm => exact HM9.out); (case hk => exact hiL); intro w6 ho hb hg; rw [HL2.out] at ho; have HO6 := am ho; have HB6 := am hb; clear ho hb hg)
         go_wp2
         go_roundg k1
         case measure => omega
         case rel => exact ⟨i, L2, _, c, by rw [HL2N.out], by simp, by have := HL2N.out; omega, by have := HL2N.out; omega, by omega, HT2, HSZ2, ⟨by have := HO6.out; rw [← HL2N.out] at this; exact this⟩, HB6⟩
      ·have HT2 : Aside0 (leastGo i L = r) := ⟨by
        have := HT.out
        rw [leastGo, hit_no (fun j hj hne => HN.out j (by omega) hne)] at this
        exact this⟩
       have hge2 : L.length ≤ k := by omega
       clear HT HN
       go_wp2
       go_roundg k1
       case measure => omega
       case rel => exact ⟨i, L, A, c, rfl, by simp, by omega, hL, by omega, HT2, HSZ, HO, HB⟩
end Go.Proofs.YtfomjbbebgajcaaGreatDoor.Giv
