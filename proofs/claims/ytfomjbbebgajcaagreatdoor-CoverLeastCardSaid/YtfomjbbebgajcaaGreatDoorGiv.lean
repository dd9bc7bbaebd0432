import Derived.Test.YtfomjbbebgajcaaGreatDoorProg
import Derived.Test.YtfomjbbebgajcaaGreatDoorShelf
import Derived.Laws.Runes
import Derived.WalkMore
import Derived.SliceStrings
import Derived.ProofKit
import Derived.Lib.Strings
import Derived.Test.YtfomjbbebgajcaaGreatDoorDec
import Derived.Below
import Derived.Deep.Draws
import Derived.Deep.AppendLies
import Derived.Maps.AppendAt
import Derived.OwnWalk
import Derived.Laws.BytesArg
import Derived.Laws.MakeOwn
import Derived.Laws.OwnMore
import Derived.Deep.OwnRows
import Derived.Tactics
import Derived.Lib.ConvBytes
import Derived.Laws.Slices
import Derived.WalkKit
import Derived.KernelRfl
import Derived.RowKit3
import Derived.Deep.LoopGhost
import Derived.Deep.QuietTactic
import Derived.BigQuiet
import Derived.WideLaws
import Derived.Deep.DeepCutAuto
import Derived.Deep.CutBlock
import Derived.Deep.RegionHeld3
import Derived.Laws.Rows
import Derived.Lib.AppendStr
import Derived.ArgAppend
import Derived.Laws.IdiomCopy
import Derived.OrdersHeld
import Derived.Laws.BitsLemmas
import Derived.RowKit
import Derived.Lib.OthersKept
import Derived.Test.YtfomjbbebgajcaaGreatDoorWWords
import Derived.Test.YtfomjbbebgajcaaGreatDoorWLast
import Derived.Test.YtfomjbbebgajcaaGreatDoorWTab
import Derived.Laws.StructEq
import Derived.Test.YtfomjbbebgajcaaGreatDoorWRepsOne
import Derived.Test.YtfomjbbebgajcaaGreatDoorWGuard
import Derived.Test.YtfomjbbebgajcaaGreatDoorWMore
namespace Go.Proofs.YtfomjbbebgajcaaGreatDoor.Giv
open Go.RowKit Go.Proofs.YtfomjbbebgajcaaGreatDoorW.PrintWords Go.Proofs.YtfomjbbebgajcaaGreatDoorW.PrintLast Go.Proofs.YtfomjbbebgajcaaGreatDoorW.PrintMore
open Go.Proofs.YtfomjbbebgajcaaGreatDoorW.PrintWords.Aside0 renaming mk → am
attribute [local go_sem] max2_int min2_int max_two min_two max_three min_three max_four min_four
set_option linter.unusedVariables false
set_option linter.unusedSimpArgs false

theorem info9 : (Tryz.prog.info? 9).map (fun i => (i.zero, i.size, i.bytes)) = some (some (.string ⟨#[]⟩), 1, 16) := by kernel_rfl

/-! ### an iterator over a string among other blocks -/
theorem R_iterAt {α : Type} {d : Kd α} {e : Nat} {w : World} {base : Nat} {ok : Nat → Prop} {v : Value} {xs : List α} (h : d.R e w base ok v xs) {k : Nat} {s : ByteArray} {pos : Nat} (hk : w.heap[k]? = some (.stringIter s pos)) (p : Nat) :
  d.R e (w.iterAt k s p) base ok v xs := by
 refine Kd.R_mono (Kd.R_move (Kd.R_bound h) fun j hj => ?_) (fun _ hj => hj.1)
 refine Lib.iterAt_other w k j s p ?_
 rintro rfl
 obtain ⟨_, _, _, q, _, cells, hc⟩ := hj
 rw [hk] at hc
 cases hc
theorem iter_drewN {w : World} {k : Nat} {s : ByteArray} {pos : Nat} (hk : w.heap[k]? = some (.stringIter s pos)) (n : Nat) : (w.drewN n).heap[k]? = some (.stringIter s pos) := hk
theorem iter_grown {w w1 : World} {k : Nat} {s : ByteArray} {pos : Nat} (hk : w.heap[k]? = some (.stringIter s pos)) {α : Type} {d : Kd α} {e : Nat} {base : Nat} {ok : Nat → Prop} {v : Value} {xs : List α} (h : d.R e w base ok v xs) (hg : w.grownBy w1 v.ownBlock) :
  w1.heap[k]? = some (.stringIter s pos) := by
 have hlt : k < w.heap.size := (Array.getElem?_eq_some_iff.1 hk).1
 rw [hg.block k hlt ?_]
 ·exact hk
 ·intro he
  obtain ⟨inner, ho⟩ := Kd.R_own h
  obtain ⟨cells, hc⟩ := own_typed ho k he.symm
  rw [hk] at hc
  cases hc

/-! ### strings.HasPrefix (the two functions as print.sh tells them) -/
def stringslite_HasPrefix.f (a0 : ByteArray) (a1 : ByteArray) : Option (Bool) := if (a0.size : Int) ≥ (a1.size : Int) then (some ((a0.extract 0 ((a1.size : Int) : Int).toNat).toList == a1.toList)) else (some false)
set_option maxHeartbeats 8000000 in
set_option maxRecDepth 100000 in
theorem stringslite_HasPrefix.calls (a0 : ByteArray) (a1 : ByteArray) (r : Bool) (w : World) (h : stringslite_HasPrefix.f a0 a1 = some r) :
  Calls Tryz.prog 164 #[.string a0, .string a1] w fun e w' => e = .returned (.bool r) ∧ Drawn0 w w' := by
 have H : (if (a0.size : Int) ≥ (a1.size : Int) then (some ((a0.extract 0 ((a1.size : Int) : Int).toNat).toList == a1.toList)) else (some false)) = some r := h
 clear h
 by_cases c3 : (a0.size : Int) ≥ (a1.size : Int)
 ·rw [if_pos c3] at H
  have c3b0 : decide ((a1.size : Int) ≤ (a0.size : Int)) = true := decide_eq_true c3
  have c3b1 : decide (a1.size ≤ a0.size) = true := decide_eq_true (Int.ofNat_le.mp c3)
  have c4b0 := eq_true (show 0 ≤ (a1.size : Int) by omega)
  have c5b0 := eq_true (show (a1.size : Int) ≤ (a0.size : Int) from c3)
  clear c3
  obtain rfl := Option.some.inj H
  go_enter Tryz.func164, Tryz.ntmps164
  go_wp2
  go_ret
  exact ⟨by first | rfl | (simp; done) | (simp [*]; done), by repeat (first | exact Drawn0.refl _ | apply Drawn0.step)⟩
 ·rw [if_neg c3] at H
  have c3b0 : decide ((a1.size : Int) ≤ (a0.size : Int)) = false := decide_eq_false c3
  have c3b1 : decide (a1.size ≤ a0.size) = false := decide_eq_false (fun h => c3 (Int.ofNat_le.mpr h))
  clear c3
  obtain rfl := Option.some.inj H
  go_enter Tryz.func164, Tryz.ntmps164
  go_wp2
  go_ret
  exact ⟨by first | rfl | (simp; done) | (simp [*]; done), by repeat (first | exact Drawn0.refl _ | apply Drawn0.step)⟩
def strings_HasPrefix.f (a0 : ByteArray) (a1 : ByteArray) : Option (Bool) := stringslite_HasPrefix.f a0 a1
set_option maxHeartbeats 8000000 in
set_option maxRecDepth 100000 in
theorem strings_HasPrefix.calls (a0 : ByteArray) (a1 : ByteArray) (r : Bool) (w : World) (h : strings_HasPrefix.f a0 a1 = some r) :
  Calls Tryz.prog 151 #[.string a0, .string a1] w fun e w' => e = .returned (.bool r) ∧ Drawn0 w w' := by
 have A3 := am (show stringslite_HasPrefix.f a0 a1 = some r from h)
 clear h
 go_enter Tryz.func151, Tryz.ntmps151
 go_wp2_with (go_at_call 164; (with_reducible refine (stringslite_HasPrefix.calls a0 a1 r _ A3.out).mono ?_); rintro e w' ⟨rfl, ⟨nd, rfl⟩⟩)
 go_ret
 exact ⟨by first | rfl | (simp; done) | (simp [*]; done), by repeat (first | exact Drawn0.refl _ | apply Drawn0.step)⟩

/-! ### wire.Check -/
abbrev fffd : ByteArray := ⟨#[239, 191, 189]⟩
def hasFffd (s : ByteArray) (i : Nat) : Bool := if ((s.extract i s.size).size : Int) ≥ 3 then ((s.extract i s.size).extract 0 3).toList == fffd.toList else false
theorem hasFffd_f (s : ByteArray) (i : Nat) : strings_HasPrefix.f (s.extract i s.size) fffd = some (hasFffd s i) := by
 unfold strings_HasPrefix.f stringslite_HasPrefix.f hasFffd
 have : (fffd.size : Int) = 3 := by decide
 rw [this]
 split <;> rfl
def wcL (s : ByteArray) : Nat → Nat → Int × Int
 | 0, _ => (0, 0)
 | k + 1, i => if i < s.size then
   (if (Utf8.decode s i).1 = 0 then ((i : Int), 14)
   else if (Utf8.decode s i).1 = 65533 ∧ hasFffd s i = false then ((i : Int), 13)
   else wcL s k (i + (Utf8.decode s i).2)) else (0, 0)
def wire_Check.f (a0 : ByteArray) : Option (Int × Int) := some (if (a0.size : Int) > 65535 then (65535, 11) else wcL a0 (a0.size + 1) 0)
set_option maxHeartbeats 8000000 in
set_option maxRecDepth 100000 in
theorem wire_Check.calls (a0 : ByteArray) (r1 : Int) (r2 : Int) (w : World) (h : wire_Check.f a0 = some (r1, r2)) :
  Calls Tryz.prog 176 #[.string a0] w fun e w' => e = .returned (.tuple #[.int .i64 r1, .int .i64 r2]) ∧ Below w.heap.size w w' := by
 have H : (if (a0.size : Int) > 65535 then (65535, 11) else wcL a0 (a0.size + 1) 0) = (r1, r2) := Option.some.inj h
 clear h
 by_cases c : (a0.size : Int) > 65535
 ·rw [if_pos c] at H
  have cb : decide (65535 < (a0.size : Int)) = true := decide_eq_true c
  have cb1 : decide (65535 < a0.size) = true := decide_eq_true (by omega)
  clear c
  simp only [Prod.mk.injEq] at H
  obtain ⟨rfl, rfl⟩ := H
  go_enter Tryz.func176, Tryz.ntmps176
  go_wp2
  go_ret2
  exact ⟨rfl, Below.refl _ _⟩
 ·rw [if_neg c] at H
  have cb : decide (65535 < (a0.size : Int)) = false := decide_eq_false c
  have cb1 : decide (65535 < a0.size) = false := decide_eq_false (by omega)
  have hs : a0.size ≤ 65535 := by omega
  clear c
  have HA := am H
  clear H
  go_enter Tryz.func176, Tryz.ntmps176
  go_wp2
  go_loopg [2, 3, 4, 5] (a0.size + 1) (fun kq v2 v3 v4 v5 w' => ∃ i : Nat, i ≤ a0.size ∧ a0.size < i + kq ∧ v2 = .int .i64 0 ∧ v3 = .int .i64 0 ∧ Aside0 (wcL a0 kq i = (r1, r2)) ∧ Aside0 (w'.heap[w.heap.size]? = some (.stringIter a0 i)) ∧ Aside0 (Below w.heap.size w w'))
  case atStart => exact ⟨0, Nat.zero_le _, by omega, rfl, rfl, HA, ⟨World.iter_heap w a0 0⟩, ⟨(Below.refl _ _).alloc (Nat.le_refl _) _⟩⟩
  case round =>
   clear HA
   obtain ⟨i, hi, hk, rfl, rfl, HA, HI, HB⟩ := hrel
   cases gk with
   | zero => omega
   | succ k1 =>
    have H := HA.out
    clear HA
    simp only [wcL] at H
    by_cases hlt : i < a0.size
    ·rw [if_pos hlt] at H
     have hnx := fun ty => Lib.run_next_any_at (P := Tryz.prog) wr w.heap.size a0 i ty HI.out hlt
     have hdl := Cr.decode_le' a0 i
     have hdw := Cr.decode_width a0 i hlt
     obtain ⟨c, hc⟩ : ∃ c, (Utf8.decode a0 i).1 = c := ⟨_, rfl⟩
     obtain ⟨n, hn⟩ : ∃ n, (Utf8.decode a0 i).2 = n := ⟨_, rfl⟩
     rw [hc] at H hdl
     rw [hn] at H hdw
     simp only [hc, hn] at hnx
     clear hc hn
     have hd1 := hdw.1
     have hd2 := hdw.2.1
     clear hdw
     have HI2 := am (Lib.iterAt_heap wr w.heap.size a0 i (i + n) HI.out)
     have HB2 := am (Lib.below_iterAt HB.out (Nat.le_refl _) a0 (i + n))
     clear HI HB
     by_cases h0 : c = 0
     ·subst h0
      rw [if_pos rfl] at H
      simp only [Prod.mk.injEq] at H
      obtain ⟨rfl, rfl⟩ := H
      go_wp2
      go_ret2
      exact ⟨rfl, HB2.out⟩
     ·rw [if_neg h0] at H
      have h0b : ((c : Int) == 0) = false := beq_eq_false_iff_ne.mpr (by omega)
      by_cases hf : c = 65533
      ·subst hf
       by_cases hp : hasFffd a0 i = false
       ·rw [if_pos ⟨rfl, hp⟩] at H
        simp only [Prod.mk.injEq] at H
        obtain ⟨rfl, rfl⟩ := H
        have A4 := am (by rw [← hp]; exact hasFffd_f a0 i : strings_HasPrefix.f (a0.extract i a0.size) fffd = some false)
        clear hp
        go_wp2_with (go_at_call 151; (with_reducible refine (strings_HasPrefix.calls _ _ _ _ A4.out).mono ?_); rintro e w' ⟨rfl, ⟨nd, rfl⟩⟩)
        go_ret2
        exact ⟨rfl, pw_below_drewN HB2.out _⟩
       ·rw [if_neg (by rintro ⟨_, e⟩; exact hp e)] at H
        have HA := am H
        clear H
        have hp' : hasFffd a0 i = true := by simpa using hp
        have A4 := am (by rw [← hp']; exact hasFffd_f a0 i : strings_HasPrefix.f (a0.extract i a0.size) fffd = some true)
        clear hp hp'
        go_wp2_with (go_at_call 151; (with_reducible refine (strings_HasPrefix.calls _ _ _ _ A4.out).mono ?_); rintro e w' ⟨rfl, ⟨nd, rfl⟩⟩)
        go_roundg k1
        case measure => omega
        case rel => exact ⟨i + n, hd2, by omega, rfl, rfl, HA, ⟨iter_drewN HI2.out _⟩, ⟨pw_below_drewN HB2.out _⟩⟩
      ·rw [if_neg (by rintro ⟨e, _⟩; exact hf e)] at H
       have HA := am H
       clear H
       have hfb : ((c : Int) == 65533) = false := beq_eq_false_iff_ne.mpr (by omega)
       go_wp2
       go_roundg k1
       case measure => omega
       case rel => exact ⟨i + n, hd2, by omega, rfl, rfl, HA, HI2, HB2⟩
    ·rw [if_neg hlt] at H
     simp only [Prod.mk.injEq] at H
     obtain ⟨rfl, rfl⟩ := H
     have hnx := fun ty => Lib.run_next_end_at (P := Tryz.prog) wr w.heap.size a0 i ty HI.out hlt
     go_wp2
     go_ret2
     exact ⟨rfl, HB.out⟩

/-! ### topic.Levels -/
def ofT (x : Cr.T) : ByteArray := ⟨x.toArray⟩
theorem bl_ofT (x : Cr.T) : Cr.bl (ofT x) = x := rfl
theorem ofT_bl (s : ByteArray) : ofT (Cr.bl s) = s := by cases s; rfl
theorem bl_inj {a b : ByteArray} (h : Cr.bl a = Cr.bl b) : a = b := by rw [← ofT_bl a, h, ofT_bl]
def levelsB (s : ByteArray) : List ByteArray := (Cr.levels (Cr.bl s)).map ofT
def topic_Levels.f (a0 : ByteArray) : Option (List ByteArray) := if a0.size ≤ 4294967280 then some (levelsB a0) else none

/-- how far the levels have come: out is done, from is where the next one begins -/
def Lev (s : ByteArray) (i frm : Nat) (out : List ByteArray) : Prop := frm ≤ i ∧ i ≤ s.size ∧ out.length ≤ i ∧ Cr.levels ((Cr.bl s).take i) = out.map Cr.bl ++ [((Cr.bl s).take i).drop frm]
theorem Lev.zero (s : ByteArray) : Lev s 0 0 [] := ⟨Nat.le_refl _, Nat.zero_le _, Nat.le_refl _, rfl⟩
theorem bl_extract (s : ByteArray) (a b : Nat) : Cr.bl (s.extract a b) = ((Cr.bl s).take b).drop a := by
 simp [Cr.bl, List.extract_eq_take_drop, List.drop_take]
theorem Lev.slash {s : ByteArray} {i frm : Nat} {out : List ByteArray} (h : Lev s i frm out) (hi : i < s.size) (hc : s.get! i = 47) : Lev s (i + 1) (i + 1) (out ++ [s.extract frm i]) := by
 obtain ⟨h1, h2, h3, h4⟩ := h
 refine ⟨Nat.le_refl _, hi, by simp; omega, ?_⟩
 have hl : i < (Cr.bl s).length := by rw [Cr.bl_len]; exact hi
 have ht : (Cr.bl s).take (i + 1) = (Cr.bl s).take i ++ [47] := by
  rw [List.take_succ_eq_append_getElem hl, ← Cr.get_bl s i hi, hc]
 rw [ht, Cr.levels_snoc47, h4, List.map_append, List.map_cons, List.map_nil, bl_extract]
 have : ((Cr.bl s).take i ++ [47]).drop (i + 1) = [] := by simp; omega
 rw [this]
theorem Lev.on {s : ByteArray} {i frm n : Nat} {out : List ByteArray} (h : Lev s i frm out) (hn : 1 ≤ n) (hi : i + n ≤ s.size) (hc : ∀ j, i ≤ j → j < i + n → s.get! j ≠ 47) : Lev s (i + n) frm out := by
 obtain ⟨h1, h2, h3, h4⟩ := h
 refine ⟨by omega, hi, by omega, ?_⟩
 have ht : (Cr.bl s).take (i + n) = (Cr.bl s).take i ++ ((Cr.bl s).drop i).take n := by rw [List.take_add]
 rw [ht, Cr.levels_app _ _ _ _ h4 ?_]
 ·rw [List.drop_append_of_le_length (by rw [List.length_take, Cr.bl_len]; omega)]
 ·intro c hcm
  obtain ⟨j, hj, rfl⟩ := List.mem_iff_getElem.1 hcm
  have hj2 : j < n ∧ i + j < s.size := by rw [List.length_take, List.length_drop, Cr.bl_len] at hj; omega
  have := hc (i + j) (by omega) (by omega)
  rw [Cr.get_bl s (i + j) hj2.2] at this
  simpa using this
theorem Lev.fin {s : ByteArray} {frm : Nat} {out : List ByteArray} (h : Lev s s.size frm out) : levelsB s = out ++ [s.extract frm s.size] := by
 obtain ⟨h1, h2, h3, h4⟩ := h
 have ht : (Cr.bl s).take s.size = Cr.bl s := List.take_of_length_le (by rw [Cr.bl_len]; exact Nat.le_refl _)
 rw [ht] at h4
 unfold levelsB
 rw [h4, List.map_append, List.map_map]
 have e : out.map (ofT ∘ Cr.bl) = out := by
  conv => rhs; rw [← List.map_id out]
  exact List.map_congr_left fun x _ => ofT_bl x
 rw [e, List.map_cons, List.map_nil]
 congr 2
 rw [← ofT_bl (s.extract frm s.size), bl_extract, ht]

set_option maxHeartbeats 8000000 in
set_option maxRecDepth 100000 in
theorem topic_Levels.calls (a0 : ByteArray) (r : List ByteArray) (w : World) (h : topic_Levels.f a0 = some r) :
  Calls Tryz.prog 150 #[.string a0] w fun e w' => ∃ v0_ : Value, e = .returned (v0_) ∧ Kd.R Kd.string 9 w' w.heap.size (fun _ => True) v0_ r ∧ Below w.heap.size w w' := by
 have hsz : a0.size ≤ 4294967280 := by
  unfold topic_Levels.f at h
  split at h
  ·assumption
  ·cases h
 have HR := am (by unfold topic_Levels.f at h; rw [if_pos hsz] at h; exact Option.some.inj h : levelsB a0 = r)
 clear h
 go_enter Tryz.func150, Tryz.ntmps150
 go_wp2
 go_loopg [3, 4, 5, 6] (a0.size + 1) (fun kq v3 v4 v5 v6 w' => ∃ (i frm : Nat) (out : List ByteArray), i ≤ a0.size ∧ frm ≤ i ∧ a0.size < i + kq ∧ v4 = .int .i64 frm ∧ Aside0 (Lev a0 i frm out) ∧ Aside0 (Kd.R Kd.string 9 w' w.heap.size (fun _ => True) v3 out) ∧ Aside0 (w'.heap[w.heap.size]? = some (.stringIter a0 i)) ∧ Aside0 (Below w.heap.size w w'))
 case atStart => exact ⟨0, 0, [], Nat.zero_le _, Nat.le_refl _, by omega, rfl, ⟨Lev.zero a0⟩, ⟨Kd.R_nil _ _ _ _ _⟩, ⟨World.iter_heap w a0 0⟩, ⟨(Below.refl _ _).alloc (Nat.le_refl _) _⟩⟩
 case round =>
  obtain ⟨i, frm, out, hi, hfi, hk, rfl, HL, HO, HI, HB⟩ := hrel
  cases gk with
  | zero => omega
  | succ k1 =>
   by_cases hlt : i < a0.size
   ·have hnx := fun ty => Lib.run_next_any_at (P := Tryz.prog) wr w.heap.size a0 i ty HI.out hlt
    have hdl := Cr.decode_le' a0 i
    have hdw := Cr.decode_width a0 i hlt
    have hds := Cr.decode_small a0 i hlt
    obtain ⟨c, hc⟩ : ∃ c, (Utf8.decode a0 i).1 = c := ⟨_, rfl⟩
    obtain ⟨n, hn⟩ : ∃ n, (Utf8.decode a0 i).2 = n := ⟨_, rfl⟩
    have hcn : Utf8.decode a0 i = (c, n) := by rw [← hc, ← hn]
    rw [hcn] at hds hdw hdl
    simp only [hcn] at hnx
    clear hc hn hcn
    have hd1 := hdw.1
    have hd2 := hdw.2.1
    have HD3 := am hdw.2.2
    have HDS := am hds
    simp only [] at hd1 hd2
    clear hdw hds
    have HI2 := am (Lib.iterAt_heap wr w.heap.size a0 i (i + n) HI.out)
    have HB2 := am (Lib.below_iterAt HB.out (Nat.le_refl _) a0 (i + n))
    have HO2 := am (R_iterAt HO.out HI.out (i + n))
    clear HI HB HO
    by_cases h47 : c = 47
    ·subst h47
     have hg : a0.get! i = 47 ∧ n = 1 := by
      rcases HDS.out with ⟨_, e2⟩ | ⟨_, e1⟩
      ·simp only [Prod.mk.injEq] at e2
       exact ⟨UInt8.toNat_inj.1 e2.1.symm, e2.2⟩
      ·simp at e1
     have hn1 := hg.2
     subst hn1
     have HL2 := am (HL.out.slash hlt hg.1)
     clear HDS HD3 hg
     go_wp2_with ((with_reducible refine gate_builtin (b := .append) (xs := #[.tmp 15, .tmp 20]) rfl ?_); at_builtin; refine Kd.R_append Kd.string (w0 := w) w.heap.size rfl (.tmp 15) (.tmp 20) 22 9 (.string ⟨#[]⟩) 16 rfl Tryz.underlying22 info9 rfl (by decide) (by omega) u3 out (a0.extract frm i) [.string (a0.extract frm i)] (fun _ => True) (fun _ => False) rfl rfl ?aP (fun _ hk => hk.elim) ?aF ?aO ?aB ?aS ?aL ?_; (case aP => exact rfl); (case aB => exact pw_below_drewN (HB2.out) 0); (case aF => exact (fun _ _ => trivial)); (case aO => exact HO2.out); (case aS => exact below_size HB2.out); (case aL => have := HL.out.2.2.1; omega); intro v1 w1 ho hb hg hat)
     have HI3 := am (iter_grown HI2.out HO2.out hg)
     have HB3 := am hb
     have HO3 := am ho
     clear hg hb ho hat HI2 HO2 HB2 HL hnx hdl
     go_roundg k1
     case measure => omega
     case rel => exact ⟨i + 1, i + 1, _, hd2, Nat.le_refl _, by omega, by simp, HL2, HO3, HI3, HB3⟩
    ·have h47b : ((c : Int) == 47) = false := beq_eq_false_iff_ne.mpr (by omega)
     have HL2 := am (HL.out.on hd1 hd2 (by
      intro j h1 h2
      by_cases hj : j = i
      ·subst hj
       intro e
       rcases HDS.out with ⟨_, e2⟩ | ⟨e1, _⟩
       ·rw [e] at e2; simp at e2; exact h47 e2.1
       ·rw [e] at e1; simp at e1
      ·intro e
       have := HD3.out j (by omega) h2
       rw [e] at this; simp at this))
     clear HL HDS HD3
     go_wp2
     go_roundg k1
     case measure => omega
     case rel => exact ⟨i + n, frm, out, hd2, by omega, by omega, rfl, HL2, HO2, HI2, HB2⟩
   ·obtain rfl : i = a0.size := by omega
    have hnx := fun ty => Lib.run_next_end_at (P := Tryz.prog) wr w.heap.size a0 a0.size ty HI.out hlt
    have hf := HL.out.fin
    rw [HR.out] at hf
    have HF := am hf
    clear hf HR
    go_wp2_with ((with_reducible refine gate_builtin (b := .append) (xs := #[.tmp 24, .tmp 28]) rfl ?_); at_builtin; refine Kd.R_append Kd.string (w0 := w) w.heap.size rfl (.tmp 24) (.tmp 28) 22 9 (.string ⟨#[]⟩) 16 rfl Tryz.underlying22 info9 rfl (by decide) (by omega) u3 out (a0.extract frm a0.size) [.string (a0.extract frm a0.size)] (fun _ => True) (fun _ => False) rfl rfl ?aP (fun _ hk => hk.elim) ?aF ?aO ?aB ?aS ?aL ?_; (case aP => exact rfl); (case aB => exact HB.out); (case aF => exact (fun _ _ => trivial)); (case aO => exact HO.out); (case aS => exact below_size HB.out); (case aL => have := HL.out.2.2.1; omega); intro v1 w1 ho hb hg hat)
    rw [← HF.out] at ho
    go_ret
    exact ⟨_, rfl, ho, hb⟩
end Go.Proofs.YtfomjbbebgajcaaGreatDoor.Giv
namespace Go.Proofs.YtfomjbbebgajcaaGreatDoor.Giv
open Go.RowKit Go.Proofs.YtfomjbbebgajcaaGreatDoorW.PrintWords Go.Proofs.YtfomjbbebgajcaaGreatDoorW.PrintLast Go.Proofs.YtfomjbbebgajcaaGreatDoorW.PrintMore
open Go.Proofs.YtfomjbbebgajcaaGreatDoorW.PrintWords.Aside0 renaming mk → am
set_option linter.unusedVariables false
set_option linter.unusedSimpArgs false

abbrev sig : ByteArray := ⟨#[43, 35]⟩

theorem decode_valid (s : ByteArray) (i : Nat) : Utf8.valid ((Utf8.decode s i).1 : Int) = true := by
 have hb : (s.get! (i + 0)).toNat < 256 := (s.get! (i + 0)).toNat_lt
 simp only [Utf8.decode]
 repeat' split
 all_goals simp_all [Utf8.valid, Utf8.runeError]
 all_goals omega

theorem IndexByte_none (s : ByteArray) (c : Int) (w : World) (h : s.data.toList = []) :
  Calls Tryz.prog 197 #[.string s, .int .u8 c] w fun e w' => e = .returned (.int .i64 (-1)) ∧ w' = w := by
 refine (Tryz.strings_IndexByte s c w).mono ?_
 rintro e w' ⟨rfl, hw⟩
 refine ⟨?_, hw⟩
 rw [h]; rfl

set_option maxHeartbeats 8000000 in
set_option maxRecDepth 1000000 in
/-- strings.IndexRune of "+#" at a rune beyond ASCII: none. -/
theorem IndexRune_high (r : Int) (w : World) (h0 : 128 ≤ r) (hv : Utf8.valid r = true) :
  Calls Tryz.prog 188 #[.string sig, .int .i32 r] w fun e w' => e = .returned (.int .i64 (-1)) ∧ Below w.heap.size w w' := by
 have hlo : ¬ r < 128 := by omega
 have h0b := eq_true (show 0 ≤ r by omega)
 by_cases hf : r = 65533
 ·subst hf
  go_enter Tryz.func188, Tryz.ntmps188
  go_wp2
  go_loopg [5, 6] 3 (fun kq v5 v6 w' => ∃ i : Nat, i ≤ 2 ∧ 2 < i + kq ∧ Aside0 (w'.heap[w.heap.size]? = some (.stringIter sig i)) ∧ Aside0 (Below w.heap.size w w'))
  case atStart => exact ⟨0, by omega, by omega, ⟨World.iter_heap w sig 0⟩, ⟨(Below.refl _ _).alloc (Nat.le_refl _) _⟩⟩
  case round =>
   obtain ⟨i, hi, hk, HI, HB⟩ := hrel
   cases gk with
   | zero => omega
   | succ k1 =>
    by_cases hlt : i < 2
    ·have hnx := fun ty => Lib.run_next_any_at (P := Tryz.prog) wr w.heap.size sig i ty HI.out hlt
     have hd : ((Utf8.decode sig i).1 = 43 ∨ (Utf8.decode sig i).1 = 35) ∧ (Utf8.decode sig i).2 = 1 := by
      have : i = 0 ∨ i = 1 := by omega
      rcases this with rfl | rfl
      ·decide
      ·decide
     obtain ⟨c, hc⟩ : ∃ c, (Utf8.decode sig i).1 = c := ⟨_, rfl⟩
     rw [hc] at hd
     simp only [hc, hd.2] at hnx
     have hcb : ((c : Int) == 65533) = false := beq_eq_false_iff_ne.mpr (by omega)
     clear hd hc
     have HI2 := am (Lib.iterAt_heap wr w.heap.size sig i (i + 1) HI.out)
     have HB2 := am (Lib.below_iterAt HB.out (Nat.le_refl _) sig (i + 1))
     clear HI HB
     go_wp2
     go_roundg k1
     case measure => omega
     case rel => exact ⟨i + 1, by omega, by omega, HI2, HB2⟩
    ·have hnx := fun ty => Lib.run_next_end_at (P := Tryz.prog) wr w.heap.size sig i ty HI.out (show ¬ i < sig.size from hlt)
     go_wp2
     go_ret
     exact ⟨rfl, HB.out⟩
 ·have hfb : (r == 65533) = false := beq_eq_false_iff_ne.mpr hf
  have hvr : Lib.validRune r = true := by
   unfold Utf8.valid at hv
   unfold Lib.validRune
   simp only [Bool.or_eq_true, Bool.and_eq_true, decide_eq_true_eq] at hv
   rw [decide_eq_true_eq]; omega
  have hen := encode_facts r hv h0
  obtain ⟨s1, hs1⟩ : ∃ s1, Utf8.encode r = s1 := ⟨_, rfl⟩
  rw [hs1] at hen
  have hcv := fun (W : World) => run_convert_int_string (P := Tryz.prog) W 21 9 .i32 r (by kernel_rfl) Tryz.underlying9
  rw [hs1] at hcv
  have HS := am hs1
  clear hs1 hv hf
  obtain ⟨hn2, hn4, hlast⟩ := hen
  by_cases hn : s1.size = 2
  ·obtain ⟨y, x, rfl⟩ : ∃ y x : UInt8, s1 = ⟨#[y, x]⟩ := by
    obtain ⟨⟨l⟩⟩ := s1
    match l, hn with
    | [y, x], _ => exact ⟨y, x, rfl⟩
   have hb : 128 ≤ x.toNat := hlast (by omega)
   have hne : (((sig[1]'(by decide)).toNat : Int) != (((⟨#[y, x]⟩ : ByteArray)[1]'(by show 1 < 2; omega)).toNat : Int)) = true := by
    show ((35 : Int) != (x.toNat : Int)) = true
    rw [bne_iff_ne]; omega
   clear hn hlast hn2 hn4
   go_enter Tryz.func188, Tryz.ntmps188
   go_wp2_with (go_at_call 198; refine (Tryz.utf8_ValidRune _ _).mono ?_; rintro e w' ⟨rfl, hw⟩; rw [hw, hvr])
   go_step3
   go_wp2
   refine wp_loop_rounds 1 ?_
   rw [rounds_succ]
   go_wp2
   go_step3
   go_wp2
   go_quiet (fail)
   have HB1 := am (pw_below_drewN (Below.refl w.heap.size w) nq)
   generalize w.drewN nq = w1 at *
   go_wp2
   go_quiet ((go_at_call 197; refine Calls.quiet_of_same (IndexByte_none _ _ _ rfl)))
   go_wp2
   rw [Exit.noGoto_ret]
   go_wp2
   rw [Exit.noGoto_ret]
   go_ret
   exact ⟨rfl, pw_below_drewN HB1.out _⟩
  ·have hx : decide ((s1.size : Int) - 1 < 2) = false := decide_eq_false (by omega)
   clear hlast
   go_enter Tryz.func188, Tryz.ntmps188
   go_wp2_with (go_at_call 198; refine (Tryz.utf8_ValidRune _ _).mono ?_; rintro e w' ⟨rfl, hw⟩; rw [hw, hvr])
   go_step3
   go_wp2
   refine wp_loop_rounds 1 ?_
   rw [rounds_succ]
   go_wp2
   rw [Exit.noGoto_ret]
   go_ret
   exact ⟨rfl, Below.refl _ _⟩
theorem info256 : (Tryz.prog.info? 206).map (fun i => (i.zero, i.size)) = some (some (.agg (Array.replicate 256 (.bool false))), 256) := by kernel_rfl
theorem NoAny_on {s : ByteArray} {i n : Nat} (h : Lib.NoAny (Cr.bl s) (Cr.bl sig) i) (hn : i + n ≤ s.size) (hc : ∀ j, i ≤ j → j < i + n → 128 ≤ (s.get! j).toNat) : Lib.NoAny (Cr.bl s) (Cr.bl sig) (i + n) := by
 intro j b hj hb
 by_cases h1 : j < i
 ·exact h j b h1 hb
 ·have h2 := hc j (by omega) hj
  have hjs : j < s.size := by omega
  rw [Cr.get_bl s j hjs] at h2
  rw [List.getElem?_eq_getElem (by rw [Cr.bl_len]; exact hjs)] at hb
  simp only [Option.some.injEq] at hb
  rw [hb] at h2
  show ([43, 35] : List UInt8).contains b = false
  cases hcb : ([43, 35] : List UInt8).contains b with
  | false => rfl
  | true =>
   simp at hcb
   rcases hcb with rfl | rfl <;> simp at h2

def asc (x : UInt8) : Int := Lib.indexByte (Cr.bl sig) x
theorem IndexRune_asc (x : UInt8) (w : World) (h : x.toNat < 128) :
  Calls Tryz.prog 188 #[.string sig, .int .i32 (x.toNat : Int)] w fun e w' => e = .returned (.int .i64 (asc x)) ∧ w' = w := by
 refine (Tryz.strings_IndexRune_ascii sig _ w (by omega) (by omega)).mono ?_
 rintro e w' ⟨rfl, hw⟩
 refine ⟨?_, hw⟩
 rw [show ((x.toNat : Int)).toNat.toUInt8 = x by simp]; rfl

set_option maxHeartbeats 8000000 in
set_option maxRecDepth 1000000 in
theorem IndexAny_short (s : ByteArray) (w : World) (h8 : s.size ≤ 8) :
  Calls Tryz.prog 181 #[.string s, .string sig] w fun e w' => e = .returned (.int .i64 (Lib.indexAny (Cr.bl s) (Cr.bl sig))) ∧ Below w.heap.size w w' := by
 have h8z : decide ((8 : Int) < (s.size : Int)) = false := decide_eq_false (by omega)
 go_enter Tryz.func181, Tryz.ntmps181
 go_wp2_with (go_at_call 189; refine (Tryz.strings_shouldUseASCIISet _ _).mono ?_; rintro e w' ⟨rfl, hw⟩; rw [hw, h8z])
 go_loopg [9, 10] (s.size + 1) (fun kq _ _ w' => ∃ i : Nat, i ≤ s.size ∧ s.size < i + kq ∧ Aside0 (Lib.NoAny (Cr.bl s) (Cr.bl sig) i) ∧ Aside0 (w'.heap[w.heap.size]? = some (.stringIter s i)) ∧ Aside0 (Below w.heap.size w w'))
 case atStart => exact ⟨0, Nat.zero_le _, by omega, ⟨Lib.NoAny.zero _ _⟩, ⟨World.iter_heap w s 0⟩, ⟨(Below.refl _ _).alloc (Nat.le_refl _) _⟩⟩
 case round =>
  obtain ⟨i, hi, hk, HN, HI, HB⟩ := hrel
  cases gk with
  | zero => omega
  | succ k1 =>
   by_cases hlt : i < s.size
   ·have hnx := fun ty => Lib.run_next_any_at (P := Tryz.prog) wr w.heap.size s i ty HI.out hlt
    have hdl := Cr.decode_le' s i
    have hdw := Cr.decode_width s i hlt
    have hds := Cr.decode_small s i hlt
    have hv := decode_valid s i
    obtain ⟨c, hc⟩ : ∃ c, (Utf8.decode s i).1 = c := ⟨_, rfl⟩
    obtain ⟨n, hn⟩ : ∃ n, (Utf8.decode s i).2 = n := ⟨_, rfl⟩
    have hcn : Utf8.decode s i = (c, n) := by rw [← hc, ← hn]
    rw [hcn] at hds hdw hdl hv
    simp only [hcn] at hnx
    clear hc hn hcn
    have hd1 := hdw.1
    have hd2 := hdw.2.1
    have HD3 := am hdw.2.2
    have HV := am hv
    simp only [] at hd1 hd2
    clear hdw hv
    have HI2 := am (Lib.iterAt_heap wr w.heap.size s i (i + n) HI.out)
    have HB2 := am (Lib.below_iterAt HB.out (Nat.le_refl _) s (i + n))
    clear HI HB
    rcases hds with ⟨hb, he⟩ | ⟨hb, he⟩
    ·simp only [Prod.mk.injEq] at he
     obtain ⟨he1, he2⟩ := he
     subst he2
     have hx : (Cr.bl s)[i]? = some (s.get! i) := by
      rw [List.getElem?_eq_getElem (by rw [Cr.bl_len]; exact hlt), Cr.get_bl s i hlt]
     obtain ⟨x, hxe⟩ : ∃ x, s.get! i = x := ⟨_, rfl⟩
     rw [hxe] at hx he1 hb
     subst he1
     have HX := am hx
     clear hx hxe
     have hcon := Lib.contains_iff_indexByte (Cr.bl sig) x
     cases hin : (Cr.bl sig).contains x
     ·rw [hin] at hcon
      have hlt2 : ¬ ((0 : Int) ≤ asc x) := of_decide_eq_false hcon.symm
      have HN2 := am (HN.out.succ HX.out hin)
      clear hcon hin
      go_wp2_with (go_at_call 188; refine (IndexRune_asc x _ hb).mono ?_; rintro e w' ⟨rfl, hw⟩; rw [hw])
      go_roundg k1
      case measure => omega
      case rel => exact ⟨i + 1, hd2, by omega, HN2, HI2, HB2⟩
     ·rw [hin] at hcon
      have hge : (0 : Int) ≤ asc x := of_decide_eq_true hcon.symm
      have HIN := am hin
      clear hcon hin
      go_wp2_with (go_at_call 188; refine (IndexRune_asc x _ hb).mono ?_; rintro e w' ⟨rfl, hw⟩; rw [hw])
      go_ret
      exact ⟨by rw [Lib.indexAny_hit HN.out HX.out HIN.out]; rfl, HB2.out⟩
    ·have HN2 := am (NoAny_on HN.out hd2 (by
      intro j h1 h2
      by_cases hj : j = i
      ·subst hj; exact hb
      ·exact HD3.out j (by omega) h2))
     clear HN HD3
     go_wp2_with (go_at_call 188; refine (IndexRune_high _ _ (by omega) HV.out).mono ?_; rintro e w2 ⟨rfl, hb2⟩)
     have HI3 := am ((hb2.block _ (Array.getElem?_eq_some_iff.1 HI2.out).1).trans HI2.out)
     have HB3 := am (below_step HB2.out hb2)
     clear hb2 HI2 HB2
     go_roundg k1
     case measure => omega
     case rel => exact ⟨i + n, hd2, by omega, HN2, HI3, HB3⟩
   ·have hnx := fun ty => Lib.run_next_end_at (P := Tryz.prog) wr w.heap.size s i ty HI.out hlt
    obtain rfl : i = s.size := by omega
    go_wp2
    go_ret
    exact ⟨by rw [Lib.indexAny_none (by rw [Cr.bl_len]; exact HN.out)]; rfl, HB.out⟩
theorem indexAny_wild : ∀ s : List UInt8, decide (0 ≤ Lib.indexAny s [43, 35]) = Cr.wildIn s
 | [] => by simp [Lib.indexAny, Cr.wildIn]
 | b :: l => by
  have ih := indexAny_wild l
  have hge := Lib.indexAny_ge [43, 35] l
  unfold Lib.indexAny
  by_cases hb : b = 43 ∨ b = 35
  ·have h1 : ([43, 35] : List UInt8).contains b = true := by simpa using hb
   rw [if_pos h1]
   have : Cr.wildIn (b :: l) = true := by rcases hb with rfl | rfl <;> simp [Cr.wildIn]
   simp [this]
  ·have h1 : ([43, 35] : List UInt8).contains b = false := by
    cases hc : ([43, 35] : List UInt8).contains b with
    | false => rfl
    | true => exact absurd (by simpa using hc) hb
   rw [h1]
   have h2 : Cr.wildIn (b :: l) = Cr.wildIn l := by
    have : (b == 43 || b == 35) = false := by simpa [not_or] using hb
    simp [Cr.wildIn, this]
   rw [h2, ← ih]
   simp only [Bool.false_eq_true, if_false]
   by_cases h3 : Lib.indexAny l [43, 35] = -1
   ·rw [h3]; simp
   ·have : (Lib.indexAny l [43, 35] == -1) = false := beq_eq_false_iff_ne.mpr h3
    rw [this]
    simp only [Bool.false_eq_true, if_false]
    rw [decide_eq_decide]; omega

/-! ### strings.ContainsAny (of "+#") -/
def strings_ContainsAny.f (a0 : ByteArray) (a1 : ByteArray) : Option (Bool) := if Cr.bl a1 = [43, 35] ∧ a0.size ≤ 4294967280 then some (Cr.wildIn (Cr.bl a0)) else none
theorem IndexAny_sig (s : ByteArray) (w : World) (h : s.size ≤ 4294967280) :
  Calls Tryz.prog 181 #[.string s, .string sig] w fun e w' => e = .returned (.int .i64 (Lib.indexAny (Cr.bl s) (Cr.bl sig))) ∧ Below w.heap.size w w' := by
 by_cases h8 : s.size ≤ 8
 ·exact IndexAny_short s w h8
 ·refine (Tryz.strings_IndexAny_long (zero_of_info info256).1 s sig w (by show 2 ≤ 2; omega) (by omega) (by omega) (by show 2 < 4294967281; omega) ?_).mono ?_
  ·intro j b hb
   have : j = 0 ∨ j = 1 ∨ 2 ≤ j := by omega
   rcases this with rfl | rfl | h
   ·simp at hb; subst hb; decide
   ·simp at hb; subst hb; decide
   ·rw [List.getElem?_eq_none (by simpa using h)] at hb; cases hb
  ·rintro e w' ⟨rfl, rfl⟩
   exact ⟨rfl, ((Below.refl _ _).alloc (Nat.le_refl _) _).alloc (by simp) _⟩
set_option maxHeartbeats 8000000 in
set_option maxRecDepth 100000 in
theorem strings_ContainsAny.calls (a0 : ByteArray) (a1 : ByteArray) (r : Bool) (w : World) (h : strings_ContainsAny.f a0 a1 = some r) :
  Calls Tryz.prog 175 #[.string a0, .string a1] w fun e w' => e = .returned (.bool r) ∧ Below w.heap.size w w' := by
 unfold strings_ContainsAny.f at h
 split at h
 ·rename_i hc
  obtain ⟨hc1, hc2⟩ := hc
  obtain rfl : a1 = sig := bl_inj hc1
  obtain rfl := Option.some.inj h
  have HE := am (indexAny_wild (Cr.bl a0))
  have c := IndexAny_sig a0 w hc2
  obtain ⟨i, hi⟩ : ∃ i, Lib.indexAny (Cr.bl a0) (Cr.bl sig) = i := ⟨_, rfl⟩
  rw [hi] at c
  have HI := am (show Lib.indexAny (Cr.bl a0) [43, 35] = i from hi)
  clear hi hc1 h
  go_enter Tryz.func175, Tryz.ntmps175
  go_wp2_with (go_at_call 181; refine c.mono ?_; rintro e w' ⟨rfl, hw⟩)
  go_ret
  exact ⟨by rw [← HE.out, HI.out]; rfl, hw⟩
 ·cases h

theorem Cr_cell_lt {w : World} {a : Addr} {v : Value} (h : w.cell? a = some v) : a.block < w.heap.size := by
 unfold World.cell? at h
 split at h
 ·rename_i hb; exact (Array.getElem?_eq_some_iff.1 hb).1
 ·cases h
/-! ### strings.Join (by "/") -/
theorem join_eq : ∀ l : List Cr.T, Lib.join l [47] = Cr.join l
 | [] => rfl
 | [x] => by rw [Lib.join_one]; rfl
 | x :: y :: r => by
  have ih := join_eq (y :: r)
  rw [Cr.join_cons x (y :: r) (by simp), ← ih]
  simp [Lib.join, List.intercalate, List.intersperse]
def strings_Join.f (a0 : List ByteArray) (a1 : ByteArray) : Option (ByteArray) := if Cr.bl a1 = [47] ∧ a0.length ≤ 4294967280 ∧ (Cr.join (a0.map Cr.bl)).length ≤ 140737488355328 then some (ofT (Cr.join (a0.map Cr.bl))) else none
theorem strings_Join.calls (A0 : Option Addr) (c0 : Nat) (l0 : List ByteArray) (a1 : ByteArray) (r : ByteArray) (w : World) (hr0 : Kd.C Kd.string w A0 l0.length l0) (hc0 : l0.length ≤ c0) (h : strings_Join.f l0 a1 = some r) :
  Calls Tryz.prog 153 #[.slice A0 l0.length c0, .string a1] w fun e w' => e = .returned (.string r) ∧ Below w.heap.size w w' := by
 unfold strings_Join.f at h
 split at h
 ·rename_i hc
  obtain ⟨h1, h2, h3⟩ := hc
  obtain rfl := Option.some.inj h
  by_cases h0 : l0 = []
  ·subst h0
   refine (Tryz.strings_Join_none A0 c0 a1 w).mono ?_
   rintro e w' ⟨rfl, rfl⟩
   exact ⟨rfl, Below.refl _ _⟩
  ·have hpos : 0 < l0.length := List.length_pos_iff.2 h0
   obtain ⟨ad, rfl, hc00⟩ := Kd.at_string hr0 0 (Int.le_refl _) (by omega)
   obtain ⟨b, o, sp⟩ := ad
   have hsp : sp = none := by simpa [Addr.add] using World.cell?_spot hc00
   subst hsp
   have hcells : ∀ (j : Nat) x, l0[j]? = some x → w.cell? ⟨b, o + j, none⟩ = some (.string x) := by
    intro j x hx
    have hj : j < l0.length := (List.getElem?_eq_some_iff.1 hx).1
    obtain ⟨ad', e', hc'⟩ := Kd.at_string hr0 j (by omega) (by omega)
    cases e'
    have e1 : (Addr.add ⟨b, o, none⟩ ((j : Int)).toNat) = ⟨b, o + j, none⟩ := by
     by_cases hj0 : j = 0
     ·subst hj0; rfl
     ·simp [Addr.add, hj0]
    rw [e1] at hc'
    rw [hc']
    simp [rdOf, List.getD, hx]
   have hmap : l0.map (·.data.toList) = l0.map Cr.bl := rfl
   have hsep : a1.data.toList = [47] := h1
   have hbk : b < w.heap.size := by
    have := hcells 0 l0[0] (by simp [hpos])
    exact Cr_cell_lt this
   refine (Tryz.strings_Join b o c0 l0 a1 w hcells hbk (by omega) hc0 (by rw [hsep, join_eq]; exact h3)).mono ?_
   rintro e w' ⟨rfl, hb⟩
   refine ⟨?_, hb⟩
   rw [hsep, join_eq]; rfl
 ·cases h
end Go.Proofs.YtfomjbbebgajcaaGreatDoor.Giv
