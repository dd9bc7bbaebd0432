/- The walk of Outside. -/
import Derived.Test.YtfomjbbebgajcaaGreatDoorObj
namespace Go.Proofs.YtfomjbbebgajcaaGreatDoor.Giv
open Go.RowKit Go.Proofs.YtfomjbbebgajcaaGreatDoorW.PrintWords Go.Proofs.YtfomjbbebgajcaaGreatDoorW.PrintLast Go.Proofs.YtfomjbbebgajcaaGreatDoorW.PrintMore Go.Proofs.YtfomjbbebgajcaaGreatDoor.MCoverLeast
open Go.Proofs.YtfomjbbebgajcaaGreatDoorW.PrintWords.Aside0 renaming mk → am
set_option linter.unusedVariables false
set_option linter.unusedSimpArgs false

def cover_Outside.f (a0 : ByteArray) (a1 : ByteArray) : Option (ByteArray × Bool) := if a0.size ≤ big ∧ a1.size ≤ big then some (ans (Cr.outside (Cr.bl a0) (Cr.bl a1))) else none

/-- where the search stands -/
structure Srch (w0 : World) (w : World) (g : Nat) (f : ByteArray) (A1 : Option Addr) (c1 : Nat) (a : List ByteArray) (A2 : Option Addr) (c2 : Nat) (b : List ByteArray) (A3 : Option Addr) (c3 : Nat) (own : List ByteArray) : Prop where
 ob : Ob w g f A1 c1 a A2 c2 b (.slice A3 own.length c3)
 ra : Kd.R Kd.string 9 w w0.heap.size (fun k => k < g) (.slice A1 a.length c1) a
 rb : Kd.R Kd.string 9 w w0.heap.size (fun k => k < g) (.slice A2 b.length c2) b
 ro : Kd.R Kd.string 9 w (g + 1) (fun k => g < k) (.slice A3 own.length c3) own
 bl : Below w0.heap.size w0 w
 gg : w0.heap.size ≤ g
theorem Srch.on {w0 w w1 : World} {g : Nat} {f : ByteArray} {A1 : Option Addr} {c1 : Nat} {a : List ByteArray} {A2 : Option Addr} {c2 : Nat} {b : List ByteArray} {A3 : Option Addr} {c3 : Nat} {own : List ByteArray}
  (h : Srch w0 w g f A1 c1 a A2 c2 b A3 c3 own) (hb : Below w.heap.size w w1) : Srch w0 w1 g f A1 c1 a A2 c2 b A3 c3 own :=
 ⟨h.ob.below hb, Kd.R_below h.ra hb, Kd.R_below h.rb hb, Kd.R_below h.ro hb, below_step h.bl hb, h.gg⟩
theorem Srch.drawn {w0 w : World} {g : Nat} {f : ByteArray} {A1 : Option Addr} {c1 : Nat} {a : List ByteArray} {A2 : Option Addr} {c2 : Nat} {b : List ByteArray} {A3 : Option Addr} {c3 : Nat} {own : List ByteArray}
  (h : Srch w0 w g f A1 c1 a A2 c2 b A3 c3 own) (n : Nat) : Srch w0 (w.drewN n) g f A1 c1 a A2 c2 b A3 c3 own :=
 h.on (pw_below_drewN (Below.refl _ _) n)
/-- the level is put behind -/
theorem Srch.put {w0 w w1 : World} {g : Nat} {f : ByteArray} {A1 : Option Addr} {c1 : Nat} {a : List ByteArray} {A2 : Option Addr} {c2 : Nat} {b : List ByteArray} {A3 A4 : Option Addr} {c3 c4 : Nat} {own own2 : List ByteArray}
  (h : Srch w0 w g f A1 c1 a A2 c2 b A3 c3 own) (hb : Below (g + 1) w w1) (ho : Kd.R Kd.string 9 w1 (g + 1) (fun k => g < k) (.slice A4 own2.length c4) own2) :
  Srch w0 (w1.setCell ⟨g, 3, none⟩ (.slice A4 own2.length c4)) g f A1 c1 a A2 c2 b A4 c4 own2 := by
 have hk : ∀ k, k < g → w1.heap[k]? = w.heap[k]? := fun k hk => hb.block k (by omega)
 have h1 : Ob w1 g f A1 c1 a A2 c2 b (.slice A3 own.length c3) := (hb.block g (by omega)).trans h.ob
 refine ⟨blk_put h1 3 _ rfl, ?_, ?_, ?_, ?_, h.gg⟩
 ·exact Kd.R_far (Kd.R_step h.ra (fun k ho _ => hk k ho)) (fun k hk => Nat.ne_of_lt hk) _
 ·exact Kd.R_far (Kd.R_step h.rb (fun k ho _ => hk k ho)) (fun k hk => Nat.ne_of_lt hk) _
 ·exact Kd.R_far ho (fun k hk => Nat.ne_of_gt hk) _
 ·exact below_set (h.bl.trans (hb.mono (by have := h.gg; omega))) h.gg

/-- the two rows, read -/
structure Two (w0 w : World) (A1 : Option Addr) (c1 : Nat) (a : List ByteArray) (A2 : Option Addr) (c2 : Nat) (b : List ByteArray) : Prop where
 ra : Kd.R Kd.string 9 w w0.heap.size (fun _ => True) (.slice A1 a.length c1) a
 rb : Kd.R Kd.string 9 w w0.heap.size (fun _ => True) (.slice A2 b.length c2) b
 bl : Below w0.heap.size w0 w
theorem Two.on {w0 w w1 : World} {A1 : Option Addr} {c1 : Nat} {a : List ByteArray} {A2 : Option Addr} {c2 : Nat} {b : List ByteArray} (h : Two w0 w A1 c1 a A2 c2 b) (hb : Below w.heap.size w w1) : Two w0 w1 A1 c1 a A2 c2 b :=
 ⟨Kd.R_below h.ra hb, Kd.R_below h.rb hb, below_step h.bl hb⟩
theorem Two.start {w0 w : World} {A1 : Option Addr} {c1 : Nat} {a : List ByteArray} {A2 : Option Addr} {c2 : Nat} {b : List ByteArray} (h : Two w0 w A1 c1 a A2 c2 b) (f : ByteArray) :
  Srch w0 (w.alloc (.cells #[.string f, .slice A1 a.length c1, .slice A2 b.length c2, .slice none 0 0] 148 (0, 0))) w.heap.size f A1 c1 a A2 c2 b none 0 [] :=
 ⟨blk_new w _, Kd.R_alloc (Kd.R_mono (Kd.R_bound h.ra) (fun k hk => hk.2.2.1)) _, Kd.R_alloc (Kd.R_mono (Kd.R_bound h.rb) (fun k hk => hk.2.2.1)) _, Kd.R_nil _ _ _ _ _, below_alloc h.bl _, h.bl.size⟩
theorem Srch.gl {w0 w : World} {g : Nat} {f : ByteArray} {A1 : Option Addr} {c1 : Nat} {a : List ByteArray} {A2 : Option Addr} {c2 : Nat} {b : List ByteArray} {A3 : Option Addr} {c3 : Nat} {own : List ByteArray}
  (h : Srch w0 w g f A1 c1 a A2 c2 b A3 c3 own) : g + 1 ≤ w.heap.size := blk_lt h.ob
theorem read_alloc {w : World} {a : Addr} {v : Value} (h : w.cell? a = some v) (o : Obj) : (w.alloc o).cell? a = some v := read_below (below_alloc (Below.refl _ _) o) h
theorem R_first {w : World} {B : Nat} {ok : Nat → Prop} {A : Option Addr} {c : Nat} {l : List ByteArray} (h : Kd.R Kd.string 9 w B ok (.slice A l.length c) l) (i : Nat) (hi : i < l.length) :
  ∃ ad, A = some ad ∧ w.cell? (ad.add i) = some (.string l[i]) := C_at (Kd.R_reads' h).2.2 i hi

theorem R_zero {w : World} {B : Nat} {ok : Nat → Prop} {A : Option Addr} {c : Nat} {l : List ByteArray} (h : Kd.R Kd.string 9 w B ok (.slice A l.length c) l) (hi : 0 < l.length) :
  ∃ (ad : Addr) (x : ByteArray), A = some ad ∧ w.cell? ad = some (.string x) ∧ Cr.fst (LL l) = Cr.bl x := by
 obtain ⟨ad, e, hc⟩ := R_first h 0 hi
 refine ⟨ad, l[0], e, hc, ?_⟩
 cases l with
 | nil => simp at hi
 | cons x r => rfl

theorem Srch.frz {w0 w w1 : World} {g : Nat} {f : ByteArray} {A1 : Option Addr} {c1 : Nat} {a : List ByteArray} {A2 : Option Addr} {c2 : Nat} {b : List ByteArray} {A3 : Option Addr} {c3 : Nat} {own : List ByteArray}
  (h : Srch w0 w g f A1 c1 a A2 c2 b A3 c3 own) (hb : Below (g + 1) w w1) : w1.frozen? ⟨g, 3, none⟩ = false := by
 have h1 : Ob w1 g f A1 c1 a A2 c2 b (.slice A3 own.length c3) := (hb.block g (by omega)).trans h.ob
 exact blk_frozen h1 3
theorem Srch.cell3 {w0 w w1 : World} {g : Nat} {f : ByteArray} {A1 : Option Addr} {c1 : Nat} {a : List ByteArray} {A2 : Option Addr} {c2 : Nat} {b : List ByteArray} {A3 : Option Addr} {c3 : Nat} {own : List ByteArray}
  (h : Srch w0 w g f A1 c1 a A2 c2 b A3 c3 own) (hb : Below (g + 1) w w1) : w1.cell? ⟨g, 3, none⟩ = some (.slice A3 own.length c3) := by
 have h1 : Ob w1 g f A1 c1 a A2 c2 b (.slice A3 own.length c3) := (hb.block g (by omega)).trans h.ob
 exact h1.cell1.2.2.2
theorem Srch.leaves {w0 w : World} {g : Nat} {f : ByteArray} {A1 : Option Addr} {c1 : Nat} {a : List ByteArray} {A2 : Option Addr} {c2 : Nat} {b : List ByteArray} {A3 : Option Addr} {c3 : Nat} {own : List ByteArray}
  (h : Srch w0 w g f A1 c1 a A2 c2 b A3 c3 own) (ha : a.length ≤ 65536) (hi : own.length ≤ 65536) (lev : ByteArray) (free : Bool) (s : ByteArray) (ok : Bool) (ht : cover_told.f 70000 (leavesL own a b own.length lev free) false [f] = some (s, ok)) :
  Calls Tryz.prog 94 #[.pointer (some ⟨g, 0, none⟩), .int .i64 own.length, .string lev, .bool free] w fun e w' => e = .returned (.tuple #[.string s, .bool ok]) ∧ Below w.heap.size w w' :=
 leaves_calls g f A1 c1 a A2 c2 b A3 c3 own own.length rfl (by omega) (by omega) w h.ob (Kd.R_reads' h.ra).2.2 (Kd.R_reads' h.ra).2.1 (Kd.R_reads' h.rb).2.2 (Kd.R_reads' h.ro).2.2 (Kd.R_reads' h.ro).2.1 lev free 70000 s ok ht

def yH (b : List ByteArray) (i : Nat) : Bool := match b[i]? with | some y => decide (Cr.bl y ≠ Cr.H) | none => false
theorem yH_lt {b : List ByteArray} {i : Nat} (h : i < b.length) : yH b i = decide (Cr.bl b[i] ≠ Cr.H) := by unfold yH; rw [List.getElem?_eq_getElem h]
theorem yH_ge {b : List ByteArray} {i : Nat} (h : ¬ i < b.length) : yH b i = false := by unfold yH; rw [List.getElem?_eq_none (by omega)]
theorem endsHere_none {a b own : List ByteArray} (hinv : own.length ≤ a.length ∨ a.getLast? = some (ofT Cr.H)) (h : (endsP a own.length && yH b own.length) = false) (s0 : Bool) :
  ∀ h : own.length < b.length, Cr.endsHere (LL own) (LL (raB a own.length)) s0 (Cr.bl b[own.length]) = none := by
 intro hib
 unfold Cr.endsHere
 rw [if_neg]
 rintro ⟨h1, h2, h3⟩
 rw [ends_eq hinv, yH_lt hib, decide_eq_true h3, decide_eq_true (And.intro (List.length_pos_iff.2 (fun e => h1 (by rw [e]; rfl))) h2)] at h
 cases h
theorem endsHere_some {a b own : List ByteArray} (hinv : own.length ≤ a.length ∨ a.getLast? = some (ofT Cr.H)) (h : (endsP a own.length && yH b own.length) = true) (s0 : Bool) :
  ∃ h : own.length < b.length, Cr.endsHere (LL own) (LL (raB a own.length)) s0 (Cr.bl b[own.length]) = Cr.told (LL own) s0 [[]] := by
 rw [Bool.and_eq_true] at h
 by_cases hib : own.length < b.length
 ·refine ⟨hib, ?_⟩
  rw [yH_lt hib, ends_eq hinv] at h
  have h1 := of_decide_eq_true h.1
  have h2 := of_decide_eq_true h.2
  unfold Cr.endsHere
  rw [if_pos ⟨fun e => by
   have := congrArg List.length e
   rw [LL_len] at this
   have h10 := h1.1
   simp at this
   rw [this] at h10; simp at h10, h1.2, h2⟩]
 ·rw [yH_ge hib] at h; cases h.2

set_option maxHeartbeats 16000000 in
set_option maxRecDepth 100000 in
theorem cover_Outside.calls (a0 : ByteArray) (a1 : ByteArray) (r1 : ByteArray) (r2 : Bool) (w : World) (h : cover_Outside.f a0 a1 = some (r1, r2)) :
  Calls Tryz.prog 60 #[.string a0, .string a1] w fun e w' => e = .returned (.tuple #[.string r1, .bool r2]) ∧ Below w.heap.size w w' := by
 unfold cover_Outside.f at h
 have hs : a0.size ≤ big ∧ a1.size ≤ big := by
  split at h
  ·assumption
  ·cases h
 rw [if_pos hs] at h
 have H := am (Option.some.inj h)
 clear h
 have L0 := cover_levels_f hs.1 1 (Nat.le_refl 1)
 have L1 := cover_levels_f hs.2 1 (Nat.le_refl 1)
 have HB0 := am (Below.refl w.heap.size w)
 by_cases hp : Cr.plain (Cr.bl a0) = true
 ·rw [if_pos hp] at L0
  have LF := am L0
  obtain ⟨hokA, _, _, hsA⟩ := Cr.filter_parts (Cr.plain_filter hp)
  rw [← LL_levelsB] at hokA
  have hneA : levelsB a0 ≠ [] := by
   intro e
   have := LL_levelsB a0
   rw [e] at this
   exact Cr.levels_ne _ this.symm
  have hwA : wt (LL (levelsB a0)) ≤ 65536 := by rw [LL_levelsB, wt_levels]; omega
  have hlA := wt_len (LL (levelsB a0))
  rw [LL_len] at hlA
  obtain ⟨a, ha⟩ : ∃ a, levelsB a0 = a := ⟨_, rfl⟩
  rw [ha] at hokA hneA hwA hlA LF
  have hA0 : 0 < a.length := List.length_pos_iff.2 hneA
  have hlA2 : a.length ≤ 65536 := by omega
  obtain ⟨b, fine, hLG, hfine⟩ : ∃ b fine, cover_levels.f 1 a1 = some (b, fine) ∧ ((fine = false ∧ Cr.plain (Cr.bl a1) = false ∧ b = []) ∨ (fine = true ∧ Cr.plain (Cr.bl a1) = true ∧ b = levelsB a1)) := by
   by_cases hq : Cr.plain (Cr.bl a1) = true
   ·rw [if_pos hq] at L1; exact ⟨_, _, L1, .inr ⟨rfl, hq, rfl⟩⟩
   ·rw [if_neg hq] at L1; exact ⟨_, _, L1, .inl ⟨rfl, by simpa using hq, rfl⟩⟩
  have LG := am hLG
  have HF := am hfine
  have HA := am ha
  have HOK := am hokA
  have HP := am hp
  have HWA := am hwA
  clear hLG hfine ha hokA hneA hp L0 L1 hwA hlA
  obtain ⟨c, hc⟩ : ∃ c : Bool, c = (!fine || (Cr.sg (Cr.fst (LL b)) && Cr.dol (Cr.fst (LL a)))) := ⟨_, rfl⟩
  have HCC := am hc
  clear hc
  go_enter Tryz.func60, Tryz.ntmps60
  go_wp2_with fail
  try go_step3
  go_upto_region 5 with (first | (go_at_call 86; (with_reducible refine (cover_levels.calls 1 a0 a true _ LF.out).mono ?_); rintro e w1 ⟨v1, rfl, ho, hb⟩; obtain ⟨A1, c1, rfl⟩ := Kd.R_slice ho; have HRA := am ho; have HB1 := am hb; clear ho hb HB0) | (go_at_call 86; (with_reducible refine (cover_levels.calls 1 a1 b fine _ LG.out).mono ?_); rintro e w2 ⟨v2, rfl, ho, hb⟩; obtain ⟨A2, c2, rfl⟩ := Kd.R_slice ho; have HT := am (⟨Kd.R_below HRA.out hb, Kd.R_lower ho (below_size HB1.out), below_step HB1.out hb⟩ : Two w w2 A1 c1 a A2 c2 b); clear ho hb HRA HB1))
  go_cut [44] (fun v44 wc => v44 = .bool c ∧ Aside0 (Two w wc A1 c1 a A2 c2 b))
  case first =>
   obtain ⟨ad, x, rfl, hxa, hxf⟩ := R_zero HT.out.ra hA0
   have hA0i := eq_true hA0
   have hA0j := eq_true (show (0 : Int) < (a.length : Int) by omega)
   have hcc := HCC.out
   rw [hxf] at hcc
   have HXF := am hxf
   have DX := am (dollar_f x)
   clear hxf HCC
   rcases HF.out with ⟨rfl, hq, hb⟩ | ⟨rfl, hq, hb⟩
   ·have hcv : c = true := by rw [hcc]; rfl
    subst hcv
    clear hcc hq hb
    as_aux_lemma =>
     go_wp2
     repeat (go_step3; go_wp2)
     repeat (go_quiet (fail); try go_wp2)
     go_meet
     case rel => exact ⟨rfl, ⟨HT.out.on (by repeat (first | exact Below.refl _ _ | apply pw_below_drewN | apply below_drew1))⟩⟩
   ·have hB0 : 0 < b.length := by
     rw [hb, levelsB, List.length_map]
     exact List.length_pos_iff.2 (Cr.levels_ne _)
    obtain ⟨ad2, y, rfl, hyb, hyf⟩ := R_zero HT.out.rb hB0
    have hB0i := eq_true hB0
    have hB0j := eq_true (show (0 : Int) < (b.length : Int) by omega)
    rw [hyf] at hcc
    have SY := am (sign_f y)
    have HYF := am hyf
    clear hb hq hyf
    cases hsy : Cr.sg (Cr.bl y) with
    | false =>
     rw [hsy] at SY
     have hcv : c = false := by rw [hcc, hsy]; rfl
     subst hcv
     clear hcc hsy
     as_aux_lemma =>
      go_wp2_with (first | (go_at_call 87; (with_reducible refine (cover_sign.calls y false _ SY.out).mono ?_); rintro e w' ⟨rfl, ⟨nd, rfl⟩⟩))
      repeat (go_quiet (first | (go_at_call 87; (with_reducible refine (cover_sign.calls y false _ SY.out).mono ?_); rintro e w' ⟨rfl, ⟨nd, rfl⟩⟩)); try go_wp2)
      go_meet
      case rel => exact ⟨rfl, ⟨HT.out.on (by repeat (first | exact Below.refl _ _ | apply pw_below_drewN | apply below_drew1))⟩⟩
    | true =>
     rw [hsy] at SY
     have hcv : c = Cr.dol (Cr.bl x) := by rw [hcc, hsy]; simp
     obtain ⟨d, hd⟩ : ∃ d, Cr.dol (Cr.bl x) = d := ⟨_, rfl⟩
     rw [hd] at DX hcv
     subst hcv
     clear hcc hsy hd
     as_aux_lemma =>
      go_wp2_with (first | (go_at_call 87; (with_reducible refine (cover_sign.calls y true _ SY.out).mono ?_); rintro e w' ⟨rfl, ⟨nd, rfl⟩⟩) | (go_at_call 88; (with_reducible refine (cover_dollar.calls x c _ DX.out).mono ?_); rintro e w' ⟨rfl, ⟨nd, rfl⟩⟩))
      repeat (go_quiet (first | (go_at_call 87; (with_reducible refine (cover_sign.calls y true _ SY.out).mono ?_); rintro e w' ⟨rfl, ⟨nd, rfl⟩⟩) | (go_at_call 88; (with_reducible refine (cover_dollar.calls x c _ DX.out).mono ?_); rintro e w' ⟨rfl, ⟨nd, rfl⟩⟩)); try go_wp2)
      go_meet
      case rel => exact ⟨by first | rfl | (cases c <;> rfl), ⟨HT.out.on (by repeat (first | exact Below.refl _ _ | apply pw_below_drewN | apply below_drew1))⟩⟩
  case rest =>
   clear HT LF LG
   obtain ⟨e44, HT⟩ := hcut
   subst e44
   obtain ⟨s0, hs0⟩ : ∃ s0, Cr.sg (Cr.fst (LL a)) = s0 := ⟨_, rfl⟩
   obtain ⟨ad, x, rfl, hxa, hxf⟩ := R_zero HT.out.ra hA0
   have hA0i := eq_true hA0
   have hA0j := eq_true (show (0 : Int) < (a.length : Int) by omega)
   have hsx := sign_f x
   rw [← hxf, hs0] at hsx
   have SX := am hsx
   clear hsx hxf
   by_cases hc : c = true
   ·subst hc
    obtain ⟨r, hlf, hlr, hll⟩ := least_f a (by unfold big; omega) (a.length + 1) (by omega)
    obtain ⟨s, ok, htd, htv⟩ := told_get r s0 a0 (by rw [hlr]; have := wt_least (LL a); have := HWA.out; omega) (by rw [← Cr.bl_len]; omega)
    have htg : Cr.outside (Cr.bl a0) (Cr.bl a1) = if ok = true then some (Cr.bl s) else none := by
     rw [← htv, hlr]
     unfold Cr.outside
     rw [if_pos HP.out]
     have e1 : LL a = Cr.levels (Cr.bl a0) := by rw [← HA.out, LL_levelsB]
     rw [if_pos, e1, ← hs0, e1]
     have hcc := HCC.out
     rcases HF.out with ⟨rfl, hq, hb⟩ | ⟨rfl, hq, hb⟩
     ·left; exact hq
     ·right
      have e2 : LL b = Cr.levels (Cr.bl a1) := by rw [hb, LL_levelsB]
      rw [e1, e2] at hcc
      simp at hcc
      exact hcc
    have hst : Cr.bl a0 = Cr.bl a0 := rfl
    have HAN := am (show cover_answer.f s ok = some (r1, r2) by rw [answer_f, ← htg, H.out])
    have LST := am hlf
    have TD := am htd
    clear hlf hlr hll htd htv htg hst hs0 H HCC HF
    have HXa := am hxa
    have hxa1 := read_alloc hxa (.cells #[.string a0] 9 (0, 0))
    have hxa2 := read_alloc (w := wc.drew) hxa (.cells #[.string a0] 9 (0, 0))
    have HBW := am (Below.refl wc.heap.size wc)
    have HRA := am HT.out.ra
    have HB0 := am HT.out.bl
    clear HT
    as_aux_lemma =>
     go_wp2
     go_region_with (first | (go_at_call 91; (with_reducible refine (cover_least.calls (a.length + 1) _ _ a r _ ?side1 ?side2 LST.out).mono ?_); (case side1 => repeat (first | exact (Kd.R_reads' HRA.out).2.2 | (with_reducible refine Kd.C_alloc ?_ _) | (with_reducible refine Kd.C_drewN ?_ _) | (with_reducible refine Kd.C_drew ?_))); (case side2 => exact (Kd.R_reads' HRA.out).2.1); rintro e w3 ⟨v3, rfl, ho, hb⟩; obtain ⟨A3, c3, rfl⟩ := Kd.R_slice ho; have hxb := read_below (below_step (by repeat (first | (with_reducible first | exact HBW.out | apply below_alloc | apply pw_below_drewN | apply below_drew1) | exact HBW.out)) hb) HXa.out; have hxb2 := read_alloc hxb (.cells #[.string a0] 9 (0, 0)); (try clear hxa); (try clear hxa1); (try clear hxa2); (try (have HL6 := am (Kd.C_below (C_one (World.cell?_alloc_at _ _ _ _ rfl) : Kd.C Kd.string _ (some ⟨_, 0, none⟩) [a0].length [a0]) hb))); have HR3 := am (Kd.R_lower ho (below_size (by repeat (first | (with_reducible first | exact HB0.out | apply below_alloc | apply pw_below_drewN | apply below_drew1) | exact HB0.out)))); have n_ := am (below_step (by repeat (first | (with_reducible first | exact HB0.out | apply below_alloc | apply pw_below_drewN | apply below_drew1) | exact HB0.out)) hb); clear HB0; have HB0 := n_; clear n_; (try clear hb); (try clear HRA)) | (go_at_call 87; (with_reducible refine (cover_sign.calls x s0 _ SX.out).mono ?_); rintro e w' ⟨rfl, ⟨nd, rfl⟩⟩) | (go_at_call 90; (refine (cover_told.calls 70000 _ _ r s0 _ _ [a0] s ok _ ?s1 ?s2 ?s3 ?s4 TD.out).mono ?_); (case s1 => repeat (first | exact (Kd.R_reads' HR3.out).2.2 | (with_reducible refine Kd.C_alloc ?_ _) | (with_reducible refine Kd.C_drewN ?_ _) | (with_reducible refine Kd.C_drew ?_))); (case s2 => exact (Kd.R_reads' HR3.out).2.1); (case s3 => first | exact C_one (World.cell?_alloc_at _ _ _ _ rfl) | exact Kd.C_drewN (C_one (World.cell?_alloc_at _ _ _ _ rfl)) _ | exact HL6.out | exact Kd.C_drewN HL6.out _); (case s4 => exact Nat.le_refl _); rintro e w5 ⟨rfl, hb⟩; have n_ := am (below_step (by repeat (first | (with_reducible first | exact HB0.out | apply below_alloc | apply pw_below_drewN | apply below_drew1) | exact HB0.out)) hb); clear HB0; have HB0 := n_; clear n_; (try clear hb)) | (go_at_call 89; (with_reducible refine (cover_answer.calls s ok r1 r2 _ HAN.out).mono ?_); rintro e w' ⟨rfl, ⟨nd2, rfl⟩⟩))
     all_goals (try go_wp2)
     all_goals (go_ret2; exact ⟨rfl, (by repeat (first | (with_reducible first | exact HB0.out | apply below_alloc | apply pw_below_drewN | apply below_drew1) | exact HB0.out))⟩)
   ·have hc : c = false := by simpa using hc
    subst hc
    have hcc := HCC.out
    clear HCC
    rcases HF.out with ⟨rfl, hq, hb⟩ | ⟨rfl, hq, hb⟩
    ·cases hcc
    clear HF
    have hwB : wt (LL b) ≤ 65536 := by
     rw [hb, LL_levelsB, wt_levels]
     have := (Cr.filter_parts (Cr.plain_filter hq)).2.2.2
     omega
    have hlB := wt_len (LL b)
    rw [LL_len] at hlB
    have hlB2 : b.length ≤ 65536 := by omega
    have hB0 : 0 < b.length := by
     rw [hb, levelsB, List.length_map]
     exact List.length_pos_iff.2 (Cr.levels_ne _)
    have htg : Cr.outside (Cr.bl a0) (Cr.bl a1) = Cr.osearch (Cr.bl a0) s0 (LL (b.drop 0)) (LL (raB a 0)) (LL []) := by
     have e1 : LL a = Cr.levels (Cr.bl a0) := by rw [← HA.out, LL_levelsB]
     have e2 : LL b = Cr.levels (Cr.bl a1) := by rw [hb, LL_levelsB]
     rw [raB_lt hA0, List.drop_zero, List.drop_zero, e1, e2, ← hs0, e1]
     unfold Cr.outside
     rw [if_pos HP.out, if_neg]
     ·rfl
     ·rintro (h | ⟨h1, h2⟩)
      ·rw [hq] at h; cases h
      ·rw [e1, e2, h1, h2] at hcc; cases hcc
    have H0 := am (show ans (Cr.osearch (Cr.bl a0) s0 (LL (b.drop 0)) (LL (raB a 0)) (LL [])) = (r1, r2) by rw [← htg, H.out])
    have HW0 := am (show wt (LL []) + wt (LL (a.drop 0)) + wt (LL (b.drop 0)) ≤ 200000 by rw [List.drop_zero, List.drop_zero]; have := HWA.out; simp [LL, wt] at *; omega)
    have HSZ := am (show a0.size ≤ 65536 by rw [← Cr.bl_len]; omega)
    have HS0E := am hs0
    clear hcc hq hb hwB hlB htg H HWA hs0 hxa
    have HS0 := am (HT.out.start a0)
    clear HT
    go_wp2
    generalize wc.heap.size = g at HS0 ⊢
    go_loopg [11, 12, 13, 14, 15, 16, 17, 18, 104, 107, 122, 128, 160] (b.length + 1) (fun kq v11 v12 v13 v14 v15 v16 v17 v18 v104 v107 v122 v128 v160 w' => ∃ (own : List ByteArray) (A3 : Option Addr) (c3 : Nat), own.length ≤ b.length ∧ b.length < own.length + kq ∧ v11 = .int .i64 own.length ∧ Aside0 (own.length ≤ a.length ∨ a.getLast? = some (ofT Cr.H)) ∧ Aside0 (wt (LL own) + wt (LL (a.drop own.length)) + wt (LL (b.drop own.length)) ≤ 200000) ∧ Aside0 (ans (Cr.osearch (Cr.bl a0) s0 (LL (b.drop own.length)) (LL (raB a own.length)) (LL own)) = (r1, r2)) ∧ Aside0 (Srch w w' g a0 (some ad) c1 a A2 c2 b A3 c3 own))
    case atStart => exact ⟨[], none, 0, Nat.zero_le _, by simp, rfl, ⟨.inl (Nat.zero_le _)⟩, HW0, H0, HS0⟩
    case round =>
     clear HS0 HW0 H0
     obtain ⟨own, A3, c3, hi, hk, rfl, HI, HW, HH, HS⟩ := hrel
     cases gk with
     | zero => omega
     | succ k1 =>
      obtain ⟨en, hen⟩ : ∃ en, endsP a own.length = en := ⟨_, rfl⟩
      have HEC := am (ends_calls g a0 (some ad) c1 a A2 c2 b _ own.length (by omega) hA0 (by omega) wr HS.out.ob (Kd.R_reads' HS.out.ra).2.2 en hen)
      have HEN := am hen
      clear hen
      obtain ⟨e1, he1⟩ : ∃ e1, e1 = (en && yH b own.length) := ⟨_, rfl⟩
      have HE1 := am he1
      clear he1
      go_upto_region 10 with fail
      go_cut [81] (fun v81 wx => v81 = .bool e1 ∧ Aside0 (Srch w wx g a0 (some ad) c1 a A2 c2 b A3 c3 own))
      case first =>
       cases en with
       | false =>
        have hev : e1 = false := by rw [HE1.out]; rfl
        subst hev
        as_aux_lemma =>
         go_wp2_with (go_at_call 92; (refine HEC.out.mono ?_); rintro e w' ⟨rfl, ⟨nd, rfl⟩⟩)
         go_meet
         case rel => exact ⟨rfl, ⟨HS.out.drawn _⟩⟩
       | true =>
        by_cases hib : own.length < b.length
        ·obtain ⟨ad2, eA2, hyb⟩ := R_first HS.out.rb own.length hib
         obtain ⟨y, hy⟩ : ∃ y, b[own.length] = y := ⟨_, rfl⟩
         have hev1 := am (show e1 = decide (Cr.bl y ≠ Cr.H) by rw [HE1.out, yH_lt hib, hy]; rfl)
         rw [hy] at hyb
         subst eA2
         by_cases hyH : Cr.bl y = Cr.H
         ·have hyb2 : (y.toList != [35]) = false := by rw [tl, hyH]; rfl
          have hyb3 : (y.toList == [35]) = true := by rw [tl, hyH]; rfl
          have hev : e1 = false := by rw [hev1.out, decide_eq_false (by simpa using hyH)]
          subst hev
          clear hyH hy
          as_aux_lemma =>
           go_wp2_with (go_at_call 92; (refine HEC.out.mono ?_); rintro e w' ⟨rfl, ⟨nd, rfl⟩⟩)
           go_meet
           case rel => exact ⟨rfl, ⟨HS.out.drawn _⟩⟩
         ·have hyb2 : (y.toList != [35]) = true := by rw [tl, bne_iff_ne]; exact hyH
          have hyb3 : (y.toList == [35]) = false := by rw [tl, beq_eq_false_iff_ne]; exact hyH
          have hev : e1 = true := by rw [hev1.out, decide_eq_true (by simpa using hyH)]
          subst hev
          clear hyH hy
          as_aux_lemma =>
           go_wp2_with (go_at_call 92; (refine HEC.out.mono ?_); rintro e w' ⟨rfl, ⟨nd, rfl⟩⟩)
           go_meet
           case rel => exact ⟨rfl, ⟨HS.out.drawn _⟩⟩
        ·have hib2 : b.length ≤ own.length := by omega
         have hev : e1 = false := by rw [HE1.out, yH_ge hib]; rfl
         subst hev
         as_aux_lemma =>
          go_wp2_with (go_at_call 92; (refine HEC.out.mono ?_); rintro e w' ⟨rfl, ⟨nd, rfl⟩⟩)
          go_meet
          case rel => exact ⟨rfl, ⟨HS.out.drawn _⟩⟩
      case rest =>
       clear HS HEC
       obtain ⟨e81, HS⟩ := hcut
       subst e81
       go_upto_if 81 with fail
       go_cut [12] (fun v12 wx => Aside0 (∀ h : own.length < b.length, Cr.endsHere (LL own) (LL (raB a own.length)) s0 (Cr.bl b[own.length]) = none) ∧ Aside0 (Srch w wx g a0 (some ad) c1 a A2 c2 b A3 c3 own))
       case first =>
        cases e1 with
        | false =>
         have HNE := am (endsHere_none HI.out (by rw [HEN.out]; exact HE1.out.symm) s0)
         as_aux_lemma =>
          go_wp2
          go_meet
          case rel => exact ⟨HNE, HS⟩
        | true =>
         obtain ⟨hib, hES⟩ := endsHere_some HI.out (by rw [HEN.out]; exact HE1.out.symm) s0
         obtain ⟨s, ok, htd, htv⟩ := told_get own s0 ⟨#[]⟩ (by have := HW.out; omega) (by decide)
         have htv2 : Cr.endsHere (LL own) (LL (raB a own.length)) s0 (Cr.bl b[own.length]) = if ok = true then some (Cr.bl s) else none := by rw [hES, ← htv]
         have TD := am htd
         have HTV := am htv2
         clear hES htd htv htv2
         go_wp2_with fail
         go_upto_region 11 with fail
         go_cut [12, 13] (fun v12 v13 wx => v12 = .string s ∧ v13 = .bool ok ∧ Aside0 (Srch w wx g a0 (some ad) c1 a A2 c2 b A3 c3 own))
         case first =>
          have HRO := am HS.out.ro
          have HBX := am (Below.refl wc.heap.size wc)
          obtain ⟨had, hade, hx9⟩ := R_first HS.out.ra 0 hA0
          obtain ⟨hc0, hc1, hc2, hc3⟩ := HS.out.ob.cell1
          obtain ⟨_, x9, e9, hx8, hx7⟩ := R_zero HS.out.ra hA0
          cases e9
          have SX9 := am (show cover_sign.f x9 = some s0 by rw [sign_f, ← hx7, HS0E.out])
          have hx1 := read_alloc hx8 (.cells #[.string ⟨#[]⟩] 9 (0, 0))
          have hx1d := read_alloc (w := wc.drew) hx8 (.cells #[.string ⟨#[]⟩] 9 (0, 0))
          have hc31 := read_alloc hc3 (.cells #[.string ⟨#[]⟩] 9 (0, 0))
          have hc31d := read_alloc (w := wc.drew) hc3 (.cells #[.string ⟨#[]⟩] 9 (0, 0))
          have hc31e := fun n : Nat => read_alloc (w := wc.drewN n) hc3 (.cells #[.string ⟨#[]⟩] 9 (0, 0))
          have hc31f := fun n : Nat => read_alloc (w := wc.drew.drewN n) hc3 (.cells #[.string ⟨#[]⟩] 9 (0, 0))
          clear hx7 hx9 hade hc0 hc1 hc2
          as_aux_lemma =>
           go_wp2
           go_region_with (first | (go_at_call 87; (with_reducible refine (cover_sign.calls x9 s0 _ SX9.out).mono ?_); rintro e w' ⟨rfl, ⟨nd, rfl⟩⟩) | (go_at_call 90; (refine (cover_told.calls 70000 _ _ own s0 _ _ [(⟨#[]⟩ : ByteArray)] s ok _ ?s1 ?s2 ?s3 ?s4 TD.out).mono ?_); (case s1 => repeat (first | exact (Kd.R_reads' HRO.out).2.2 | (with_reducible refine Kd.C_alloc ?_ _) | (with_reducible refine Kd.C_drewN ?_ _) | (with_reducible refine Kd.C_drew ?_))); (case s2 => exact (Kd.R_reads' HRO.out).2.1); (case s3 => first | exact C_one (World.cell?_alloc_at _ _ _ _ rfl) | exact Kd.C_drewN (C_one (World.cell?_alloc_at _ _ _ _ rfl)) _); (case s4 => exact Nat.le_refl _); rintro e w5 ⟨rfl, hb⟩; have HS5 := am (HS.out.on (below_step (by repeat (first | (with_reducible first | exact HBX.out | apply below_alloc | apply pw_below_drewN | apply below_drew1) | exact HBX.out)) hb)); clear hb))
           all_goals (go_wp2; go_meet)
           all_goals (exact ⟨rfl, rfl, HS5⟩)
         case rest =>
          obtain ⟨e12, e13, HS⟩ := hcut
          subst e12 e13
          cases ok with
          | true =>
           have HR := am (show ((s, true) : ByteArray × Bool) = (r1, r2) by
            rw [← HH.out]
            obtain ⟨lev, free, ok2, hat⟩ : ∃ lev free ok2, atP a own.length = (lev, free, ok2) := ⟨_, _, _, rfl⟩
            rw [os_step HOK.out hat hib, HTV.out]
            simp [ans, ofT_bl])
           as_aux_lemma =>
            go_wp2
            go_ret2
            obtain ⟨rfl, rfl⟩ := Prod.mk.inj HR.out
            exact ⟨rfl, HS.out.bl⟩
          | false =>
           have HNE : Aside0 (∀ h : own.length < b.length, Cr.endsHere (LL own) (LL (raB a own.length)) s0 (Cr.bl b[own.length]) = none) := ⟨fun _ => HTV.out⟩
           as_aux_lemma =>
            go_wp2
            go_meet
            case rel => exact ⟨HNE, HS⟩
       case rest =>
        clear HS HEN HE1
        obtain ⟨HNE, HS⟩ := hcut
        obtain ⟨lev, free, ok, hat⟩ : ∃ lev free ok, atP a own.length = (lev, free, ok) := ⟨_, _, _, rfl⟩
        have HAC := am (at_calls g a0 (some ad) c1 a A2 c2 b _ own.length (by omega) hA0 (by omega) wc HS.out.ob (Kd.R_reads' HS.out.ra).2.2 lev free ok hat)
        have HAT := am hat
        clear hat
        have hoL : own.length ≤ 65536 := by omega
        go_upto_block 2 with (go_at_call 93; (refine HAC.out.mono ?_); rintro e w' ⟨rfl, ⟨nd, rfl⟩⟩)
        have HS1 := am (HS.out.drawn nd)
        clear HS HAC
        generalize wc.drewN nd = wz at HS1 ⊢
        go_cut [14] (fun v14 wy => ∃ l2 : ByteArray, v14 = .string l2 ∧ own.length < b.length ∧ Aside0 (own.length + 1 ≤ a.length ∨ a.getLast? = some (ofT Cr.H)) ∧ Aside0 (wt (LL (own ++ [l2])) + wt (LL (a.drop (own.length + 1))) + wt (LL (b.drop (own.length + 1))) ≤ 200000) ∧ Aside0 (ans (Cr.osearch (Cr.bl a0) s0 (LL (b.drop (own.length + 1))) (LL (raB a (own.length + 1))) (LL (own ++ [l2]))) = (r1, r2)) ∧ Aside0 (Srch w wy g a0 (some ad) c1 a A2 c2 b A3 c3 own))
        case first =>
         by_cases hib : own.length < b.length
         ·obtain ⟨ad2, eA2, hyb⟩ := R_first HS1.out.rb own.length hib
          have HH2 := HH.out
          rw [os_step HOK.out HAT.out hib, HNE.out hib] at HH2
          replace HH2 := am HH2
          have HNY := am (next_y hib HW.out)
          have HBY : Aside0 (b[own.length]?.map Cr.bl = some (Cr.bl b[own.length])) := ⟨by rw [List.getElem?_eq_getElem hib]; rfl⟩
          obtain ⟨y, hy⟩ : ∃ y, b[own.length] = y := ⟨_, rfl⟩
          rw [hy] at hyb HH2 HNY HBY
          subst eA2
          clear hy
          have hib2 : ¬ (b.length ≤ own.length) := by omega
          cases ok with
          | false =>
           have HRN := am (show ((⟨#[]⟩, false) : ByteArray × Bool) = (r1, r2) by rw [← HH2.out]; rfl)
           as_aux_lemma =>
            go_wp2
            go_ret2
            obtain ⟨rfl, rfl⟩ := Prod.mk.inj HRN.out
            exact ⟨rfl, (by repeat (first | exact HS1.out.bl | apply pw_below_drewN | apply below_drew1))⟩
          | true =>
           have HINV := am (at_inv HAT.out)
           by_cases hyH : Cr.bl y = Cr.H
           ·have hyb3 : (y.toList == [35]) = true := by rw [tl, hyH]; rfl
            have HYH := am hyH
            clear hyH
            have HRN := am (show ((⟨#[]⟩, false) : ByteArray × Bool) = (r1, r2) by rw [← HH2.out]; rw [if_neg (by decide), if_pos HYH.out]; rfl)
            as_aux_lemma =>
             go_wp2
             go_ret2
             obtain ⟨rfl, rfl⟩ := Prod.mk.inj HRN.out
             exact ⟨rfl, (by repeat (first | exact HS1.out.bl | apply pw_below_drewN | apply below_drew1))⟩
           ·have hyb3 : (y.toList == [35]) = false := by rw [tl, beq_eq_false_iff_ne]; exact hyH
            by_cases hyP : Cr.bl y = Cr.P
            ·have hyb4 : (y.toList == [43]) = true := by rw [tl, hyP]; rfl
             have hyb5 : (y.toList != [43]) = false := by rw [tl, hyP]; rfl
             have HN := am (show ans (Cr.osearch (Cr.bl a0) s0 (LL (b.drop (own.length + 1))) (LL (raB a (own.length + 1))) (LL (own ++ [lev]))) = (r1, r2) by
              rw [← HH2.out, if_neg (by decide), if_neg hyH, if_pos hyP])
             clear hyH hyP
             as_aux_lemma =>
              go_wp2
              go_meet
              case rel => exact ⟨lev, rfl, hib, ⟨HINV.out⟩, ⟨next_lev HAT.out hib HW.out⟩, ⟨HN.out⟩, ⟨by first | exact HS1.out | exact HS1.out.drawn _ | exact HS3.out | exact HS3.out.drawn _⟩⟩
            ·have hyb4 : (y.toList == [43]) = false := by rw [tl, beq_eq_false_iff_ne]; exact hyP
             have hyb5 : (y.toList != [43]) = true := by rw [tl, bne_iff_ne]; exact hyP
             replace HH2 := HH2.out
             rw [if_neg (by decide), if_neg hyH, if_neg hyP] at HH2
             replace HH2 := am HH2
             clear hyH hyP
             cases free with
             | true =>
              obtain ⟨s2, ok2, hlt, hlv⟩ := leaves_get (f := a0) (b := b) (own := own) (i := own.length) HOK.out (ofT (Cr.other (Cr.bl y))) true (m := 2 + wt (LL (a.drop (own.length + 1)))) (by rw [bl_ofT]; have := other_len (Cr.bl y); omega) (by have := HW.out; have := wt_drop_le a own.length; omega) HSZ.out
              rw [HBY.out, bl_ofT] at hlv
              have LT := am hlt
              have HL0 := am (Srch.leaves HS1.out hlA2 hoL (ofT (Cr.other (Cr.bl y))) true s2 ok2 LT.out)
              have HLN := am (fun n : Nat => Srch.leaves (HS1.out.drawn n) hlA2 hoL (ofT (Cr.other (Cr.bl y))) true s2 ok2 LT.out)
              have OT := am (other_f y)
              replace HH2 := HH2.out
              rw [if_pos rfl, hlv] at HH2
              replace HH2 := am HH2
              clear hlt hlv
              cases ok2 with
              | true =>
               have HRT := am (show ((s2, true) : ByteArray × Bool) = (r1, r2) by rw [← HH2.out]; simp [ans, ofT_bl])
               clear HH2
               as_aux_lemma =>
                go_wp2_with (first | (go_at_call 95; (with_reducible refine (cover_other.calls y (ofT (Cr.other (Cr.bl y))) _ OT.out).mono ?_); rintro e w' ⟨rfl, ⟨nd3, rfl⟩⟩) | (go_at_call 94; (first | (with_reducible refine HL0.out.mono ?_) | (with_reducible refine (HLN.out _).mono ?_)); rintro e w3 ⟨rfl, hb⟩; have HS3 := am (HS1.out.on (by first | exact hb | exact below_step (pw_below_drewN (Below.refl _ _) _) hb)); clear hb))
                go_ret2
                obtain ⟨rfl, rfl⟩ := Prod.mk.inj HRT.out
                exact ⟨rfl, (by repeat (first | exact HS3.out.bl | apply pw_below_drewN | apply below_drew1))⟩
              | false =>
               replace HH2 := HH2.out
               simp only [Bool.false_eq_true, if_false] at HH2
               obtain ⟨dl, hdl⟩ : ∃ dl, Cr.dol (Cr.bl y) = dl := ⟨_, rfl⟩
               have hdf := dollar_f y
               rw [hdl] at hdf HH2
               have DT := am hdf
               replace HH2 := am HH2
               clear hdf hdl
               have HYB := am hyb
               by_cases h0 : own = []
               ·have h00 : own.length = 0 := by rw [h0]; rfl
                have h0b : ((own.length : Int) == 0) = true := by rw [h00]; rfl
                have h0c : (own.length == 0) = true := by rw [h00]; rfl
                have H00 := am h0
                clear h0 h00
                cases dl with
                | true =>
                 have HRN := am (show ((⟨#[]⟩, false) : ByteArray × Bool) = (r1, r2) by rw [← HH2.out, if_pos ⟨H00.out, rfl⟩]; rfl)
                 clear HH2
                 as_aux_lemma =>
                  go_wp2_with (first | (go_at_call 95; (with_reducible refine (cover_other.calls y (ofT (Cr.other (Cr.bl y))) _ OT.out).mono ?_); rintro e w' ⟨rfl, ⟨nd3, rfl⟩⟩) | (go_at_call 94; (first | (with_reducible refine HL0.out.mono ?_) | (with_reducible refine (HLN.out _).mono ?_)); rintro e w3 ⟨rfl, hb⟩; have HS3 := am (HS1.out.on (by first | exact hb | exact below_step (pw_below_drewN (Below.refl _ _) _) hb)); have hyb9 := read_below (by first | exact hb | exact below_step (pw_below_drewN (Below.refl _ _) _) hb) HYB.out; clear hb) | (go_at_call 88; (with_reducible refine (cover_dollar.calls y _ _ DT.out).mono ?_); rintro e w' ⟨rfl, ⟨nd4, rfl⟩⟩))
                  go_ret2
                  obtain ⟨rfl, rfl⟩ := Prod.mk.inj HRN.out
                  exact ⟨rfl, (by repeat (first | exact HS3.out.bl | apply pw_below_drewN | apply below_drew1))⟩
                | false =>
                 have HN := am (show ans (Cr.osearch (Cr.bl a0) s0 (LL (b.drop (own.length + 1))) (LL (raB a (own.length + 1))) (LL (own ++ [y]))) = (r1, r2) by
                  rw [← HH2.out, if_neg (by rintro ⟨_, h⟩; cases h)])
                 clear HH2
                 as_aux_lemma =>
                  go_wp2_with (first | (go_at_call 95; (with_reducible refine (cover_other.calls y (ofT (Cr.other (Cr.bl y))) _ OT.out).mono ?_); rintro e w' ⟨rfl, ⟨nd3, rfl⟩⟩) | (go_at_call 94; (first | (with_reducible refine HL0.out.mono ?_) | (with_reducible refine (HLN.out _).mono ?_)); rintro e w3 ⟨rfl, hb⟩; have HS3 := am (HS1.out.on (by first | exact hb | exact below_step (pw_below_drewN (Below.refl _ _) _) hb)); have hyb9 := read_below (by first | exact hb | exact below_step (pw_below_drewN (Below.refl _ _) _) hb) HYB.out; clear hb) | (go_at_call 88; (with_reducible refine (cover_dollar.calls y _ _ DT.out).mono ?_); rintro e w' ⟨rfl, ⟨nd4, rfl⟩⟩))
                  go_meet
                  case rel => exact ⟨y, rfl, hib, ⟨HINV.out⟩, ⟨HNY.out⟩, ⟨HN.out⟩, ⟨by first | exact HS1.out | exact HS1.out.drawn _ | exact HS3.out | exact HS3.out.drawn _⟩⟩
               ·have h00 : 0 < own.length := List.length_pos_iff.2 h0
                have h0b : ((own.length : Int) == 0) = false := beq_eq_false_iff_ne.2 (by omega)
                have h0c : (own.length == 0) = false := beq_eq_false_iff_ne.2 (by omega)
                have HN := am (show ans (Cr.osearch (Cr.bl a0) s0 (LL (b.drop (own.length + 1))) (LL (raB a (own.length + 1))) (LL (own ++ [y]))) = (r1, r2) by
                 rw [← HH2.out, if_neg (by rintro ⟨h, _⟩; exact h0 h)])
                clear HH2 h0
                as_aux_lemma =>
                 go_wp2_with (first | (go_at_call 95; (with_reducible refine (cover_other.calls y (ofT (Cr.other (Cr.bl y))) _ OT.out).mono ?_); rintro e w' ⟨rfl, ⟨nd3, rfl⟩⟩) | (go_at_call 94; (first | (with_reducible refine HL0.out.mono ?_) | (with_reducible refine (HLN.out _).mono ?_)); rintro e w3 ⟨rfl, hb⟩; have HS3 := am (HS1.out.on (by first | exact hb | exact below_step (pw_below_drewN (Below.refl _ _) _) hb)); have hyb9 := read_below (by first | exact hb | exact below_step (pw_below_drewN (Below.refl _ _) _) hb) HYB.out; clear hb))
                 go_meet
                 case rel => exact ⟨y, rfl, hib, ⟨HINV.out⟩, ⟨HNY.out⟩, ⟨HN.out⟩, ⟨by first | exact HS1.out | exact HS1.out.drawn _ | exact HS3.out | exact HS3.out.drawn _⟩⟩
             | false =>
              replace HH2 := HH2.out
              rw [if_neg (by decide)] at HH2
              by_cases hly : lev = y
              ·rw [if_pos hly] at HH2
               subst hly
               have HN := am HH2
               have hly1 : (lev.toList != lev.toList) = false := by simp
               have hly2 : (lev.toList == lev.toList) = true := by simp
               clear HH2
               as_aux_lemma =>
                go_wp2
                go_meet
                case rel => exact ⟨lev, rfl, hib, ⟨HINV.out⟩, ⟨next_lev HAT.out hib HW.out⟩, ⟨HN.out⟩, ⟨by first | exact HS1.out | exact HS1.out.drawn _ | exact HS3.out | exact HS3.out.drawn _⟩⟩
              ·rw [if_neg hly] at HH2
               have hly0 : lev.toList ≠ y.toList := by rw [tl, tl]; exact fun e => hly (bl_inj e)
               have hly1 : (lev.toList != y.toList) = true := bne_iff_ne.2 hly0
               have hly2 : (lev.toList == y.toList) = false := beq_eq_false_iff_ne.2 hly0
               obtain ⟨s2, ok2, hlt, hlv⟩ := leaves_get (f := a0) (b := b) (own := own) (i := own.length) HOK.out lev false (lev_wt HAT.out).1 (by have := HW.out; omega) HSZ.out
               rw [HBY.out] at hlv
               rw [hlv] at HH2
               have LT := am hlt
               have HL0 := am (Srch.leaves HS1.out hlA2 hoL lev false s2 ok2 LT.out)
               have HLN := am (fun n : Nat => Srch.leaves (HS1.out.drawn n) hlA2 hoL lev false s2 ok2 LT.out)
               have HAN := am (show cover_answer.f s2 ok2 = some (r1, r2) by rw [answer_f, HH2])
               clear HH2 hly hly0 hlt hlv
               as_aux_lemma =>
                go_wp2_with (first | (go_at_call 94; (first | (with_reducible refine HL0.out.mono ?_) | (with_reducible refine (HLN.out _).mono ?_)); rintro e w3 ⟨rfl, hb⟩; have HS3 := am (HS1.out.on (by first | exact hb | exact below_step (pw_below_drewN (Below.refl _ _) _) hb)); clear hb) | (go_at_call 89; (with_reducible refine (cover_answer.calls s2 ok2 r1 r2 _ HAN.out).mono ?_); rintro e w' ⟨rfl, ⟨nd2, rfl⟩⟩))
                go_ret2
                exact ⟨rfl, (by repeat (first | exact HS3.out.bl | apply pw_below_drewN | apply below_drew1))⟩
         ·have hib2 : b.length ≤ own.length := by omega
          have HH2 := HH.out
          rw [List.drop_eq_nil_of_le hib2] at HH2
          change ans (Cr.osearch (Cr.bl a0) s0 [] (LL (raB a own.length)) (LL own)) = (r1, r2) at HH2
          rw [os_end HAT.out] at HH2
          replace HH2 := am HH2
          cases ok with
          | false =>
           have HRN := am (show ((⟨#[]⟩, false) : ByteArray × Bool) = (r1, r2) by rw [← HH2.out]; rfl)
           as_aux_lemma =>
            go_wp2
            go_ret2
            obtain ⟨rfl, rfl⟩ := Prod.mk.inj HRN.out
            exact ⟨rfl, (by repeat (first | exact HS1.out.bl | apply pw_below_drewN | apply below_drew1))⟩
          | true =>
           obtain ⟨s2, ok2, hlt, hlv⟩ := leaves_get (f := a0) (b := b) (own := own) (i := own.length) HOK.out lev free (lev_wt HAT.out).1 (by have := HW.out; omega) HSZ.out
           rw [List.getElem?_eq_none hib2] at hlv
           have LT := am hlt
           have HL0 := am (Srch.leaves HS1.out hlA2 hoL lev free s2 ok2 LT.out)
           have HLN := am (fun n : Nat => Srch.leaves (HS1.out.drawn n) hlA2 hoL lev free s2 ok2 LT.out)
           have HAN := am (show cover_answer.f s2 ok2 = some (r1, r2) by
            rw [answer_f]
            have := HH2.out
            rw [if_pos rfl] at this
            rw [← this]
            change Cr.leaves _ _ _ none _ _ = _ at hlv
            rw [hlv])
           clear HH2 hlt hlv
           as_aux_lemma =>
            go_wp2_with (first | (go_at_call 94; (first | (with_reducible refine HL0.out.mono ?_) | (with_reducible refine (HLN.out _).mono ?_)); rintro e w3 ⟨rfl, hb⟩; have HS3 := am (HS1.out.on (by first | exact hb | exact below_step (pw_below_drewN (Below.refl _ _) _) hb)); clear hb) | (go_at_call 89; (with_reducible refine (cover_answer.calls s2 ok2 r1 r2 _ HAN.out).mono ?_); rintro e w' ⟨rfl, ⟨nd2, rfl⟩⟩))
            go_ret2
            exact ⟨rfl, (by repeat (first | exact HS3.out.bl | apply pw_below_drewN | apply below_drew1))⟩
        case rest =>
         clear HS1 HI HW HH HNE HAT
         obtain ⟨l2, e14, hib, HI, HW, HH, HS⟩ := hcut
         subst e14
         obtain ⟨hc0, hc1, hc2, hc3⟩ := HS.out.ob.cell1
         clear hc0 hc1 hc2
         obtain ⟨own2, ho2⟩ : ∃ own2, own ++ [l2] = own2 := ⟨_, rfl⟩
         have hl2 : own2.length = own.length + 1 := by rw [← ho2]; simp
         rw [ho2] at HW HH
         rw [← hl2] at HI HW HH
         have HL2 := am hl2
         have HO2 := am ho2
         clear hl2 ho2
         as_aux_lemma =>
          go_wp2_with ((with_reducible refine gate_builtin (b := .append) (xs := #[.tmp 187, .tmp 189]) rfl ?_); at_builtin; refine Kd.R_append Kd.string (w0 := wc) (g + 1) rfl (.tmp 187) (.tmp 189) 22 9 (.string ⟨#[]⟩) 16 rfl Tryz.underlying22 info9 rfl (by decide) (by omega) (.slice A3 own.length c3) own l2 [.string l2] (fun k => g < k) (fun _ => False) rfl rfl ?aP (fun _ hk => hk.elim) ?aF ?aO ?aB ?aS ?aL ?_; (case aP => exact rfl); (case aB => exact Below.refl _ _); (case aF => exact (fun k hk => Nat.lt_of_lt_of_le (Nat.lt_of_succ_le HS.out.gl) hk)); (case aO => exact HS.out.ro); (case aS => exact HS.out.gl); (case aL => omega); intro v1 w1 ho hb hg hat; rw [HO2.out] at ho; obtain ⟨A4, c4, rfl⟩ := Kd.R_slice ho; have HS2 := am (HS.out.put hb ho); have hfz := Srch.frz HS.out hb; have hc3b := Srch.cell3 HS.out hb; clear ho hb hg hat)
          go_roundg k1
          case measure => omega
          case rel => exact ⟨own2, A4, c4, by have := HL2.out; omega, by have := HL2.out; omega, by rw [HL2.out]; simp, HI, HW, HH, HS2⟩
 ·have hpf : Cr.plain (Cr.bl a0) = false := by simpa using hp
  rw [if_neg hp] at L0
  have LF := am L0
  have HRN := am (show ((⟨#[]⟩, false) : ByteArray × Bool) = (r1, r2) by
   rw [← H.out]
   unfold Cr.outside
   rw [if_neg hp]; rfl)
  clear hp hpf L0 L1 H
  obtain ⟨rfl, rfl⟩ := Prod.mk.inj HRN.out
  go_enter Tryz.func60, Tryz.ntmps60
  go_wp2_with fail
  try go_step3
  as_aux_lemma =>
   go_wp2_with (go_at_call 86; (with_reducible refine (cover_levels.calls 1 a0 [] false _ LF.out).mono ?_); rintro e w1 ⟨v1, rfl, ho, hb⟩; have HB1 := am hb; clear ho hb HB0)
   go_ret2
   exact ⟨rfl, (by repeat (first | exact HB1.out | apply pw_below_drewN | apply below_drew1))⟩
end Go.Proofs.YtfomjbbebgajcaaGreatDoor.Giv
