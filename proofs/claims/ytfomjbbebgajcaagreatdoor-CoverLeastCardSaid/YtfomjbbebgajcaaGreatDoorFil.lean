/- topic.text, topic.CheckFilter: what they compute. -/
import Derived.Test.YtfomjbbebgajcaaGreatDoorGiv
namespace Go.Proofs.YtfomjbbebgajcaaGreatDoor.Giv
open Go.RowKit Go.Proofs.YtfomjbbebgajcaaGreatDoorW.PrintWords Go.Proofs.YtfomjbbebgajcaaGreatDoorW.PrintLast Go.Proofs.YtfomjbbebgajcaaGreatDoorW.PrintMore
open Go.Proofs.YtfomjbbebgajcaaGreatDoorW.PrintWords.Aside0 renaming mk → am
set_option linter.unusedVariables false
set_option linter.unusedSimpArgs false

def wcode (s : ByteArray) : Int × Int := if (s.size : Int) > 65535 then (65535, 11) else wcL s (s.size + 1) 0
theorem wcode_f (s : ByteArray) : wire_Check.f s = some (wcode s) := rfl
def txt (s : ByteArray) : Int := if s.size = 0 then 50 else if (wcode s).2 = 0 then 0 else 51
def topic_text.f (a0 : ByteArray) : Option (Int) := some (txt a0)
set_option maxHeartbeats 8000000 in
set_option maxRecDepth 100000 in
theorem topic_text.calls (a0 : ByteArray) (r : Int) (w : World) (h : topic_text.f a0 = some r) :
  Calls Tryz.prog 163 #[.string a0] w fun e w' => e = .returned (.int .i64 r) ∧ Below w.heap.size w w' := by
 obtain rfl := Option.some.inj h
 clear h
 unfold txt
 by_cases c : a0.size = 0
 ·rw [if_pos c]
  have hE : a0.toList = [] := by
   obtain ⟨⟨l⟩⟩ := a0
   cases l with
   | nil => simp
   | cons a b => cases c
  go_enter Tryz.func163, Tryz.ntmps163
  go_wp2
  go_ret
  exact ⟨rfl, Below.refl _ _⟩
 ·rw [if_neg c]
  have hE : a0.toList.isEmpty = false := by
   rw [Lib.toList_data]
   cases h : a0.data.toList with
   | nil => have := Lib.size_eq a0; rw [h, List.length_nil] at this; omega
   | cons _ _ => rfl
  have hE2 : (a0.toList == []) = false := by cases h : a0.toList with
   | nil => rw [h] at hE; cases hE
   | cons _ _ => rfl
  obtain ⟨p, e, hp⟩ : ∃ p e, wcode a0 = (p, e) := ⟨_, _, rfl⟩
  have A4 := am (show wire_Check.f a0 = some (p, e) by rw [wcode_f, hp])
  rw [hp]
  clear hp c
  by_cases he : e = 0
  ·subst he
   rw [if_pos rfl]
   go_enter Tryz.func163, Tryz.ntmps163
   go_wp2_with (go_at_call 176; (with_reducible refine (wire_Check.calls a0 p 0 _ A4.out).mono ?_); rintro e w' ⟨rfl, hb⟩)
   go_ret
   exact ⟨rfl, hb⟩
  ·have heb : (e != 0) = true := bne_iff_ne.mpr he
   have heb1 : (e == 0) = false := beq_eq_false_iff_ne.mpr he
   rw [if_neg he]
   clear he
   go_enter Tryz.func163, Tryz.ntmps163
   go_wp2_with (go_at_call 176; (with_reducible refine (wire_Check.calls a0 p e _ A4.out).mono ?_); rintro e w' ⟨rfl, hb⟩)
   go_ret
   exact ⟨rfl, hb⟩
/-! ### topic.CheckFilter -/
def lvOK (n i : Nat) (x : Cr.T) : Bool := !Cr.wildIn x || (decide (x.length ≤ 1) && !(x == Cr.H && decide (i + 1 < n)))
def okAll (l : List Cr.T) (i : Nat) : Prop := ∀ j x, j < i → l[j]? = some x → lvOK l.length j x = true
theorem okF_iff : ∀ (l : List Cr.T), Cr.okF l = true ↔ okAll l l.length := by
 intro l
 have key : ∀ (l : List Cr.T) (n k : Nat), k + l.length = n → (Cr.okF l = true ↔ ∀ j x, l[j]? = some x → lvOK n (k + j) x = true) := by
  intro l
  induction l with
  | nil => intro n k _; simp [Cr.okF]
  | cons x r ih =>
   intro n k hk
   have hk' : (k + 1) + r.length = n := by simp at hk; omega
   have ihr := ih n (k + 1) hk'
   simp only [Cr.okF, Bool.and_eq_true, ihr]
   have hlast : (k + 1 < n) ↔ ¬ r = [] := by
    cases r with
    | nil => simp at hk; simp; omega
    | cons a b => simp at hk; simp; omega
   constructor
   ·rintro ⟨⟨h1, h2⟩, h3⟩ j y hj
    cases j with
    | zero =>
     simp only [List.getElem?_cons_zero, Option.some.injEq] at hj
     subst hj
     simp only [lvOK, Nat.add_zero, Bool.or_eq_true, Bool.and_eq_true, Bool.not_eq_true', decide_eq_true_eq] at h1 ⊢
     rcases h1 with h1 | h1
     ·exact .inl h1
     ·refine .inr ⟨h1, ?_⟩
      by_cases hx : x = Cr.H
      ·simp only [hx, beq_self_eq_true, Bool.not_true, Bool.false_or, List.isEmpty_iff] at h2
       have : ¬ (k + 1 < n) := by rw [hlast]; simp [h2]
       simp [this]
      ·simp [hx]
    | succ j =>
     simp only [List.getElem?_cons_succ] at hj
     have := h3 j y hj
     rwa [show k + (j + 1) = k + 1 + j by omega]
   ·intro h
    refine ⟨?_, fun j y hj => ?_⟩
    ·have h0 := h 0 x (by simp)
     simp only [lvOK, Nat.add_zero, Bool.or_eq_true, Bool.and_eq_true, Bool.not_eq_true', decide_eq_true_eq] at h0 ⊢
     rcases h0 with h0 | ⟨h0, h1⟩
     ·refine ⟨.inl h0, ?_⟩
      by_cases hx : x = Cr.H
      ·subst hx; simp [Cr.wildIn, Cr.H] at h0
      ·exact .inl (by simpa using hx)
     ·refine ⟨.inr h0, ?_⟩
      by_cases hx : x = Cr.H
      ·right
       simp only [hx, beq_self_eq_true, Bool.true_and, decide_eq_false_iff_not] at h1
       rw [hlast] at h1
       simpa using h1
      ·exact .inl (by simpa using hx)
    ·have := h (j + 1) y (by simpa using hj)
     rwa [show k + (j + 1) = k + 1 + j by omega] at this
 rw [key l l.length 0 (by omega)]
 constructor
 ·intro h j x _ hj; have := h j x hj; rwa [Nat.zero_add] at this
 ·intro h j x hj; rw [Nat.zero_add]; exact h j x (List.getElem?_eq_some_iff.1 hj).1 hj

def topic_CheckFilter.f (a0 : ByteArray) : Option (Int) := if a0.size ≤ 4294967280 then some (if txt a0 = 0 then (if Cr.okF (Cr.levels (Cr.bl a0)) = true then 0 else 52) else txt a0) else none
theorem levelsB_map (s : ByteArray) : (levelsB s).map Cr.bl = Cr.levels (Cr.bl s) := by
 unfold levelsB
 rw [List.map_map]
 conv => rhs; rw [← List.map_id (Cr.levels (Cr.bl s))]
 exact List.map_congr_left fun x _ => rfl
theorem levels_count : ∀ s : Cr.T, (Cr.levels s).length ≤ s.length + 1
 | [] => by simp [Cr.levels]
 | c :: s => by
  have ih := levels_count s
  by_cases hc : c = 47
  ·subst hc; simp [Cr.levels]; omega
  ·obtain ⟨l, r, h1, h2⟩ := Cr.levels_cons c s hc
   rw [h2]; rw [h1] at ih; simp at ih ⊢; omega
theorem okAll_succ {l : List Cr.T} {i : Nat} {x : Cr.T} (h : okAll l i) (hx : l[i]? = some x) (hl : lvOK l.length i x = true) : okAll l (i + 1) := by
 intro j y hj hy
 by_cases h1 : j < i
 ·exact h j y h1 hy
 ·obtain rfl : j = i := by omega
  rw [hx] at hy; cases hy; exact hl
theorem okAll_not {l : List Cr.T} {i : Nat} {x : Cr.T} (hx : l[i]? = some x) (hl : lvOK l.length i x = false) : Cr.okF l = false := by
 cases h : Cr.okF l with
 | false => rfl
 | true =>
  have := (okF_iff l).1 h i x (List.getElem?_eq_some_iff.1 hx).1 hx
  rw [hl] at this; cases this
theorem wild_none {x : Cr.T} (h : Lib.NoAny x (Cr.bl sig) x.length) : Cr.wildIn x = false := by
 rw [← indexAny_wild, show ([43, 35] : List UInt8) = Cr.bl sig from rfl, Lib.indexAny_none h]; rfl
theorem wild_some {x : Cr.T} {i : Nat} {c : UInt8} (h : x[i]? = some c) (hc : c = 43 ∨ c = 35) : Cr.wildIn x = true :=
 List.any_eq_true.2 ⟨c, List.mem_of_getElem? h, by rcases hc with rfl | rfl <;> decide⟩

theorem one_of {x : Cr.T} {p : Nat} {c : UInt8} (h : x[p]? = some c) (hl : x.length ≤ 1) : x = [c] := by
 match x, hl with
 | [], _ => simp at h
 | [a], _ =>
  cases p with
  | zero => simp at h; rw [h]
  | succ p => simp at h
theorem lvOK_long {n i : Nat} {x : Cr.T} (h : Cr.wildIn x = true) (hl : 1 < x.length) : lvOK n i x = false := by
 simp [lvOK, h]; omega
theorem lvOK_plus {n i p : Nat} {x : Cr.T} (h : x[p]? = some 43) (hl : x.length ≤ 1) : lvOK n i x = true := by
 rw [one_of h hl]; simp [lvOK, Cr.H]
theorem lvOK_hash {n i p : Nat} {x : Cr.T} (h : x[p]? = some 35) (hl : x.length ≤ 1) : lvOK n i x = !decide (i + 1 < n) := by
 rw [one_of h hl]; simp [lvOK, Cr.H, Cr.wildIn]
theorem lvOK_none {n i : Nat} {x : Cr.T} (h : Cr.wildIn x = false) : lvOK n i x = true := by simp [lvOK, h]

set_option maxHeartbeats 8000000 in
set_option maxRecDepth 100000 in
theorem topic_CheckFilter.calls (a0 : ByteArray) (r : Int) (w : World) (h : topic_CheckFilter.f a0 = some r) :
  Calls Tryz.prog 149 #[.string a0] w fun e w' => e = .returned (.int .i64 r) ∧ Below w.heap.size w w' := by
 unfold topic_CheckFilter.f at h
 split at h
 case isFalse => cases h
 rename_i hsz
 have H := Option.some.inj h
 clear h
 by_cases ht : txt a0 = 0
 ·rw [if_pos ht] at H
  have A1 := am (show topic_text.f a0 = some 0 by unfold topic_text.f; rw [ht])
  have A2 := am (show topic_Levels.f a0 = some (levelsB a0) by unfold topic_Levels.f; rw [if_pos hsz])
  clear ht
  have hcnt : (levelsB a0).length ≤ 4294967281 := by
   have := levels_count (Cr.bl a0)
   rw [← levelsB_map, List.length_map, Cr.bl_len] at this
   omega
  rw [← levelsB_map] at H
  obtain ⟨l, hl⟩ : ∃ l, levelsB a0 = l := ⟨_, rfl⟩
  rw [hl] at H A2 hcnt
  have HR := am H
  clear H hl
  go_enter Tryz.func149, Tryz.ntmps149
  go_wp2_with fail
  go_step3
  go_wp2_with fail
  refine (topic_text.calls a0 0 _ A1.out).mono ?_
  rintro e w1 ⟨rfl, hb1⟩
  have HB1 := am hb1
  clear hb1 A1
  go_wp2_with fail
  refine (topic_Levels.calls a0 l _ A2.out).mono ?_
  rintro e w2 ⟨v, rfl, ho, hb2⟩
  have HO := am (Kd.R_lower ho (below_size HB1.out))
  have HB2 := am (below_step HB1.out hb2)
  clear ho hb2 A2 HB1
  obtain ⟨Ao, co, eo⟩ := Kd.R_slice HO.out
  subst eo
  go_wp2
  go_step3
  go_wp2
  go_loopg [18] (l.length + 1) (fun kq v18 w' => ∃ i : Nat, i ≤ l.length ∧ l.length < i + kq ∧ v18 = .int .i64 i ∧ Aside0 (okAll (l.map Cr.bl) i) ∧ Aside0 (Kd.R Kd.string 9 w' w.heap.size (fun _ => True) (.slice Ao l.length co) l) ∧ Aside0 (Below w.heap.size w w'))
  case atStart => exact ⟨0, Nat.zero_le _, by omega, rfl, ⟨fun j x hj => by omega⟩, HO, HB2⟩
  case round =>
   clear HO HB2
   obtain ⟨i, hi, hk, rfl, HA, HO, HB⟩ := hrel
   cases gk with
   | zero => omega
   | succ k1 =>
    by_cases hlt : i < l.length
    ·obtain ⟨ad, eA, hc⟩ := Kd.at_string (Kd.R_reads' HO.out).2.2 (i : Int) (by omega) (by omega)
     cases eA
     obtain ⟨s, hs⟩ : ∃ s, rdOf ByteArray.empty l (i : Int) = s := ⟨_, rfl⟩
     have hx : (l.map Cr.bl)[i]? = some (Cr.bl s) := by
      have : l[i]? = some s := by
       rw [← hs]
       simp [rdOf, List.getD, hlt]
      simp [this]
     rw [hs, Int.toNat_natCast] at hc
     have HX := am hx
     clear hs hx
     obtain ⟨wo, hwo⟩ : ∃ wo : World, wo = wr := ⟨_, rfl⟩
     subst hwo
     have HSZ := am (Cr.bl_len s)
     go_wp2
     have HO1 := am (Kd.R_alloc HO.out (.stringIter s 0))
     have HB1 := am (below_alloc HB.out (.stringIter s 0))
     have HL1 := am HB.out.size
     clear HO HB
     go_loopg [8] (s.size + 1) (fun kq v8 w' => ∃ p : Nat, p ≤ s.size ∧ s.size < p + kq ∧ Aside0 (Lib.NoAny (Cr.bl s) (Cr.bl sig) p) ∧ Aside0 (w'.heap[wo.heap.size]? = some (.stringIter s p)) ∧ Aside0 (Kd.R Kd.string 9 w' w.heap.size (fun _ => True) (.slice (some ad) l.length co) l) ∧ Aside0 (Below w.heap.size w w'))
     case atStart => exact ⟨0, Nat.zero_le _, by omega, ⟨Lib.NoAny.zero _ _⟩, ⟨World.iter_heap wo s 0⟩, HO1, HB1⟩
     case round =>
      clear HO1 HB1 hc
      obtain ⟨p, hp, hkp, HN, HI, HO, HB⟩ := hrel
      cases gk with
      | zero => omega
      | succ k2 =>
       by_cases hlp : p < s.size
       ·have hnx := fun ty => Lib.run_next_any_at (P := Tryz.prog) wr wo.heap.size s p ty HI.out hlp
        have hdl := Cr.decode_le' s p
        have hdw := Cr.decode_width s p hlp
        have hds := Cr.decode_small s p hlp
        obtain ⟨c, hcc⟩ : ∃ c, (Utf8.decode s p).1 = c := ⟨_, rfl⟩
        obtain ⟨n, hn⟩ : ∃ n, (Utf8.decode s p).2 = n := ⟨_, rfl⟩
        have hcn : Utf8.decode s p = (c, n) := by rw [← hcc, ← hn]
        rw [hcn] at hds hdw hdl
        simp only [hcn] at hnx
        clear hcc hn hcn
        have hd1 := hdw.1
        have hd2 := hdw.2.1
        have HD3 := am hdw.2.2
        have HDS := am hds
        simp only [] at hd1 hd2
        clear hdw hds
        have HI2 := am (Lib.iterAt_heap wr wo.heap.size s p (p + n) HI.out)
        have HB2 := am (Lib.below_iterAt HB.out HL1.out s (p + n))
        have HO2 := am (R_iterAt HO.out HI.out (p + n))
        clear HI HB HO
        have hbyte : ∀ b : UInt8, b.toNat < 128 → c = b.toNat → (Cr.bl s)[p]? = some b := by
         intro b hb hcb
         rcases HDS.out with ⟨_, e2⟩ | ⟨_, e1⟩
         ·simp only [Prod.mk.injEq] at e2
          rw [List.getElem?_eq_getElem (by rw [Cr.bl_len]; exact hlp), ← Cr.get_bl s p hlp]
          congr 1
          exact UInt8.toNat_inj.1 (by omega)
         ·simp only [] at e1; omega
        have HS1 := am (Cr.bl_len s)
        by_cases h43 : c = 43
        ·subst h43
         have HY := am (hbyte 43 (by decide) rfl)
         clear hbyte HDS HD3 HN
         by_cases h1 : 1 < s.size
         ·have hR : r = 52 := by
           rw [← HR.out, okAll_not HX.out (lvOK_long (wild_some HY.out (.inl rfl)) (by rw [HS1.out]; exact h1))]; rfl
          subst hR
          clear HR HX HA
          go_wp2
          repeat rw [Exit.noGoto_ret]
          go_ret
          exact ⟨rfl, HB2.out⟩
         ·have HA2 := am (okAll_succ HA.out HX.out (lvOK_plus HY.out (by rw [HS1.out]; omega)))
          clear HA HX HY
          go_wp2
          go_roundg k1
          case measure => omega
          case rel => exact ⟨i + 1, by omega, by omega, by simp, HA2, HO2, HB2⟩
        ·by_cases h35 : c = 35
         ·subst h35
          have HY := am (hbyte 35 (by decide) rfl)
          clear hbyte HDS HD3 HN
          by_cases h1 : 1 < s.size
          ·have hR : r = 52 := by
            rw [← HR.out, okAll_not HX.out (lvOK_long (wild_some HY.out (.inr rfl)) (by rw [HS1.out]; exact h1))]; rfl
           subst hR
           clear HR HX HA
           go_wp2
           repeat rw [Exit.noGoto_ret]
           go_ret
           exact ⟨rfl, HB2.out⟩
          ·by_cases h2 : i + 1 < l.length
           ·have h2b : decide ((i : Int) < (l.length : Int) - 1) = true := decide_eq_true (by omega)
            have hR : r = 52 := by
             rw [← HR.out, okAll_not HX.out (by rw [lvOK_hash HY.out (by rw [HS1.out]; omega), List.length_map]; simp [h2])]; rfl
            subst hR
            clear HR HX HA HY
            go_wp2
            repeat rw [Exit.noGoto_ret]
            go_ret
            exact ⟨rfl, HB2.out⟩
           ·have h2b : decide ((i : Int) < (l.length : Int) - 1) = false := decide_eq_false (by omega)
            have HA2 := am (okAll_succ HA.out HX.out (by rw [lvOK_hash HY.out (by rw [HS1.out]; omega), List.length_map]; simp [h2]))
            clear HA HX HY
            go_wp2
            go_roundg k1
            case measure => omega
            case rel => exact ⟨i + 1, by omega, by omega, by simp, HA2, HO2, HB2⟩
         ·have h43b : ((c : Int) != 43) = true := bne_iff_ne.mpr (by omega)
          have h35b : ((c : Int) != 35) = true := bne_iff_ne.mpr (by omega)
          have HN2 : Aside0 (Lib.NoAny (Cr.bl s) (Cr.bl sig) (p + n)) := ⟨by
           rcases HDS.out with ⟨hb, he⟩ | ⟨hb, _⟩
           ·simp only [Prod.mk.injEq] at he
            obtain ⟨he1, rfl⟩ := he
            refine HN.out.succ (x := s.get! p) (by rw [List.getElem?_eq_getElem (by rw [Cr.bl_len]; exact hlp), ← Cr.get_bl s p hlp]) ?_
            show ([43, 35] : List UInt8).contains (s.get! p) = false
            cases hcb : ([43, 35] : List UInt8).contains (s.get! p) with
            | false => rfl
            | true =>
             simp at hcb
             rcases hcb with e | e <;> rw [e] at he1 <;> simp at he1
             ·exact absurd he1 h43
             ·exact absurd he1 h35
           ·refine NoAny_on HN.out hd2 ?_
            intro j h1 h2
            by_cases hj : j = p
            ·subst hj; exact hb
            ·exact HD3.out j (by omega) h2⟩
          clear hbyte HDS HD3 HN
          go_wp2
          go_roundg k2
          case measure => omega
          case rel => exact ⟨p + n, hd2, by omega, HN2, HI2, HO2, HB2⟩
       ·have hnx := fun ty => Lib.run_next_end_at (P := Tryz.prog) wr wo.heap.size s p ty HI.out hlp
        have HA2 := am (okAll_succ HA.out HX.out (lvOK_none (wild_none (by
         have := HN.out
         rwa [show p = (Cr.bl s).length by rw [Cr.bl_len]; omega] at this))))
        clear HA HX HN
        go_wp2
        go_roundg k1
        case measure => omega
        case rel => exact ⟨i + 1, by omega, by omega, by simp, HA2, HO, HB⟩
    ·have hR : r = 0 := by
      rw [← HR.out, (okF_iff _).2 (by have := HA.out; rwa [show i = (l.map Cr.bl).length by rw [List.length_map]; omega] at this)]; rfl
     subst hR
     clear HR HA
     obtain rfl : i = l.length := by omega
     go_wp2
     repeat rw [Exit.noGoto_ret]
     go_ret
     exact ⟨rfl, HB.out⟩
 ·rw [if_neg ht] at H
  subst H
  obtain ⟨e, he⟩ : ∃ e, txt a0 = e := ⟨_, rfl⟩
  rw [he] at ht
  have A1 := am (show topic_text.f a0 = some e by unfold topic_text.f; rw [he])
  rw [he]
  have heb : (e != 0) = true := bne_iff_ne.mpr ht
  have heb1 : (e == 0) = false := beq_eq_false_iff_ne.mpr ht
  clear ht he
  go_enter Tryz.func149, Tryz.ntmps149
  go_wp2_with fail
  go_step3
  go_wp2_with fail
  refine (topic_text.calls a0 e _ A1.out).mono ?_
  rintro e w1 ⟨rfl, hb1⟩
  go_wp2
  repeat rw [Exit.noGoto_ret]
  go_ret
  exact ⟨rfl, hb1⟩
end Go.Proofs.YtfomjbbebgajcaaGreatDoor.Giv
